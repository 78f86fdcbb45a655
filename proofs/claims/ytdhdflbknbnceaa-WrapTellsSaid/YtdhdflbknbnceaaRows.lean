/-
  No cell of these rows narrows 'for every input' (looked for: loops, veiled, ifaces, maps, wideKeys, modest, calm, conditions, laid).
  DERIVED. THE GIVEN ROWS OF THIS SEAT. 8 by the template 'for every input the law returns true; each argument reads behind the call as it read before'; 0 by the template 'total and deterministic' (their statements: YtdhdflbknbnceaaTotals.lean).
  GIVEN WITH THE SEED: the statements are not yours to turn. If you find one false, say at which input.
  Laid BY PROGRAM, IN A SANDBOX (cutbox-rows.mjs): the forced cells as the released guide's own fill.sh prints them over the translation f3fb57f9061c93d4… (all of the seat's roots in one cut). By AI agents, Wed Nov 11 2026. No macro, syntax, notation, axiom, sorry.
-/
import Derived.Test.YtdhdflbknbnceaaChecked
import GoSem.Claim
import GoSem.ClaimJoined
import GoSem.ClaimMapViews
import Derived.JoinedTies
import Derived.KernelRfl
namespace Go.Proofs.Ytdhdflbknbnceaa
/- THE CELL 'sum', in the pinned program and in every row, IS THE sha256 OF THE DUMP (.gsa) THAT YtdhdflbknbnceaaProg.lean LOADS. Nothing in Lean hashes anything: it is a label: what it is worth is what the hold of that sum in a sandbox is worth. -/
noncomputable def Try.pinned : Pinned := { name := "ytdhdflbknbnceaa", sum := "f3fb57f9061c93d408f0e94dbffcd1195f8fb2ed3b775a96b40cfd5c7c0e4509", checked := Try.checked }
namespace Rows
def none {H : Type} : Left H := { results := [], args := [] }

/-- 'headstocklaw01.WrapTells': WHATEVER THE INPUT: true; the input reads as it did. -/
def wrapTellsSpec : ChangeSpec := { name := "wrapTells", fn := fun _ => fun
  | [d1, d2, d3] => { results := [.lit (.bool true)], args := [d1, d2, d3] }
  | _ => none }
def wrapTellsRow : OpenClaim := { program := "ytdhdflbknbnceaa", sum := "f3fb57f9061c93d408f0e94dbffcd1195f8fb2ed3b775a96b40cfd5c7c0e4509", func := "headstock/headstocklaw01.WrapTells", spec := "wrapTells", apart := false }
def WrapTellsSaid : Prop := wrapTellsRow.holds Try.pinned (OpenSpec.ofChange wrapTellsSpec)

/-- ITS FALSE NEIGHBOUR: 'it returns false'. Refute it at one input. -/
def wrapTellsWrong : ChangeSpec := { name := "wrapTells", fn := fun _ => fun
  | [d1, d2, d3] => { results := [.lit (.bool false)], args := [d1, d2, d3] }
  | _ => none }
def WrapTellsWrongFalsely : Prop := wrapTellsRow.holds Try.pinned (OpenSpec.ofChange wrapTellsWrong)

/-- 'headstocklaw01.WrapTwice': WHATEVER THE INPUT: true; the input reads as it did. -/
def wrapTwiceSpec : ChangeSpec := { name := "wrapTwice", fn := fun _ => fun
  | [d1, d2] => { results := [.lit (.bool true)], args := [d1, d2] }
  | _ => none }
def wrapTwiceRow : OpenClaim := { program := "ytdhdflbknbnceaa", sum := "f3fb57f9061c93d408f0e94dbffcd1195f8fb2ed3b775a96b40cfd5c7c0e4509", func := "headstock/headstocklaw01.WrapTwice", spec := "wrapTwice", apart := false }
def WrapTwiceSaid : Prop := wrapTwiceRow.holds Try.pinned (OpenSpec.ofChange wrapTwiceSpec)

/-- ITS FALSE NEIGHBOUR: 'it returns false'. Refute it at one input. -/
def wrapTwiceWrong : ChangeSpec := { name := "wrapTwice", fn := fun _ => fun
  | [d1, d2] => { results := [.lit (.bool false)], args := [d1, d2] }
  | _ => none }
def WrapTwiceWrongFalsely : Prop := wrapTwiceRow.holds Try.pinned (OpenSpec.ofChange wrapTwiceWrong)

/-- 'headstocklaw01.WrapLow': WHATEVER THE INPUT: true; the input reads as it did. -/
def wrapLowSpec : ChangeSpec := { name := "wrapLow", fn := fun _ => fun
  | [d1, d2, d3] => { results := [.lit (.bool true)], args := [d1, d2, d3] }
  | _ => none }
def wrapLowRow : OpenClaim := { program := "ytdhdflbknbnceaa", sum := "f3fb57f9061c93d408f0e94dbffcd1195f8fb2ed3b775a96b40cfd5c7c0e4509", func := "headstock/headstocklaw01.WrapLow", spec := "wrapLow", apart := false }
def WrapLowSaid : Prop := wrapLowRow.holds Try.pinned (OpenSpec.ofChange wrapLowSpec)

/-- ITS FALSE NEIGHBOUR: 'it returns false'. Refute it at one input. -/
def wrapLowWrong : ChangeSpec := { name := "wrapLow", fn := fun _ => fun
  | [d1, d2, d3] => { results := [.lit (.bool false)], args := [d1, d2, d3] }
  | _ => none }
def WrapLowWrongFalsely : Prop := wrapLowRow.holds Try.pinned (OpenSpec.ofChange wrapLowWrong)

/-- 'headstocklaw01.WrapDivides': WHATEVER THE INPUT: true; the input reads as it did. -/
def wrapDividesSpec : ChangeSpec := { name := "wrapDivides", fn := fun _ => fun
  | [d1, d2] => { results := [.lit (.bool true)], args := [d1, d2] }
  | _ => none }
def wrapDividesRow : OpenClaim := { program := "ytdhdflbknbnceaa", sum := "f3fb57f9061c93d408f0e94dbffcd1195f8fb2ed3b775a96b40cfd5c7c0e4509", func := "headstock/headstocklaw01.WrapDivides", spec := "wrapDivides", apart := false }
def WrapDividesSaid : Prop := wrapDividesRow.holds Try.pinned (OpenSpec.ofChange wrapDividesSpec)

/-- ITS FALSE NEIGHBOUR: 'it returns false'. Refute it at one input. -/
def wrapDividesWrong : ChangeSpec := { name := "wrapDivides", fn := fun _ => fun
  | [d1, d2] => { results := [.lit (.bool false)], args := [d1, d2] }
  | _ => none }
def WrapDividesWrongFalsely : Prop := wrapDividesRow.holds Try.pinned (OpenSpec.ofChange wrapDividesWrong)

/-- 'headstocklaw01.WrapHalves': WHATEVER THE INPUT: true; the input reads as it did. -/
def wrapHalvesSpec : ChangeSpec := { name := "wrapHalves", fn := fun _ => fun
  | [d1, d2] => { results := [.lit (.bool true)], args := [d1, d2] }
  | _ => none }
def wrapHalvesRow : OpenClaim := { program := "ytdhdflbknbnceaa", sum := "f3fb57f9061c93d408f0e94dbffcd1195f8fb2ed3b775a96b40cfd5c7c0e4509", func := "headstock/headstocklaw01.WrapHalves", spec := "wrapHalves", apart := false }
def WrapHalvesSaid : Prop := wrapHalvesRow.holds Try.pinned (OpenSpec.ofChange wrapHalvesSpec)

/-- ITS FALSE NEIGHBOUR: 'it returns false'. Refute it at one input. -/
def wrapHalvesWrong : ChangeSpec := { name := "wrapHalves", fn := fun _ => fun
  | [d1, d2] => { results := [.lit (.bool false)], args := [d1, d2] }
  | _ => none }
def WrapHalvesWrongFalsely : Prop := wrapHalvesRow.holds Try.pinned (OpenSpec.ofChange wrapHalvesWrong)

/-- 'headstocklaw01.WrapSigns': WHATEVER THE INPUT: true; the input reads as it did. -/
def wrapSignsSpec : ChangeSpec := { name := "wrapSigns", fn := fun _ => fun
  | [d1, d2, d3] => { results := [.lit (.bool true)], args := [d1, d2, d3] }
  | _ => none }
def wrapSignsRow : OpenClaim := { program := "ytdhdflbknbnceaa", sum := "f3fb57f9061c93d408f0e94dbffcd1195f8fb2ed3b775a96b40cfd5c7c0e4509", func := "headstock/headstocklaw01.WrapSigns", spec := "wrapSigns", apart := false }
def WrapSignsSaid : Prop := wrapSignsRow.holds Try.pinned (OpenSpec.ofChange wrapSignsSpec)

/-- ITS FALSE NEIGHBOUR: 'it returns false'. Refute it at one input. -/
def wrapSignsWrong : ChangeSpec := { name := "wrapSigns", fn := fun _ => fun
  | [d1, d2, d3] => { results := [.lit (.bool false)], args := [d1, d2, d3] }
  | _ => none }
def WrapSignsWrongFalsely : Prop := wrapSignsRow.holds Try.pinned (OpenSpec.ofChange wrapSignsWrong)

/-- 'headstocklaw01.WrapRing': WHATEVER THE INPUT: true; the input reads as it did. -/
def wrapRingSpec : ChangeSpec := { name := "wrapRing", fn := fun _ => fun
  | [d1, d2, d3] => { results := [.lit (.bool true)], args := [d1, d2, d3] }
  | _ => none }
def wrapRingRow : OpenClaim := { program := "ytdhdflbknbnceaa", sum := "f3fb57f9061c93d408f0e94dbffcd1195f8fb2ed3b775a96b40cfd5c7c0e4509", func := "headstock/headstocklaw01.WrapRing", spec := "wrapRing", apart := false }
def WrapRingSaid : Prop := wrapRingRow.holds Try.pinned (OpenSpec.ofChange wrapRingSpec)

/-- ITS FALSE NEIGHBOUR: 'it returns false'. Refute it at one input. -/
def wrapRingWrong : ChangeSpec := { name := "wrapRing", fn := fun _ => fun
  | [d1, d2, d3] => { results := [.lit (.bool false)], args := [d1, d2, d3] }
  | _ => none }
def WrapRingWrongFalsely : Prop := wrapRingRow.holds Try.pinned (OpenSpec.ofChange wrapRingWrong)

/-- 'headstocklaw01.WrapBits': WHATEVER THE INPUT: true; the input reads as it did. -/
def wrapBitsSpec : ChangeSpec := { name := "wrapBits", fn := fun _ => fun
  | [d1, d2, d3] => { results := [.lit (.bool true)], args := [d1, d2, d3] }
  | _ => none }
def wrapBitsRow : OpenClaim := { program := "ytdhdflbknbnceaa", sum := "f3fb57f9061c93d408f0e94dbffcd1195f8fb2ed3b775a96b40cfd5c7c0e4509", func := "headstock/headstocklaw01.WrapBits", spec := "wrapBits", apart := false }
def WrapBitsSaid : Prop := wrapBitsRow.holds Try.pinned (OpenSpec.ofChange wrapBitsSpec)

/-- ITS FALSE NEIGHBOUR: 'it returns false'. Refute it at one input. -/
def wrapBitsWrong : ChangeSpec := { name := "wrapBits", fn := fun _ => fun
  | [d1, d2, d3] => { results := [.lit (.bool false)], args := [d1, d2, d3] }
  | _ => none }
def WrapBitsWrongFalsely : Prop := wrapBitsRow.holds Try.pinned (OpenSpec.ofChange wrapBitsWrong)

/- THE SECOND FORM. 'bulk': how many values and letters a reading holds, each counted each time it is reached (what is shared counts as often as it is met; a slice's spare places count too). A statement '..UptoSaid' is the law's where the arguments, and the package variables that the reading takes, are together of bulk at most 1048576: NARROWER than '..Said'. Prove '..Said' where nothing that the law and all that it calls make is longer than what came in: it says more and counts as full. Else prove '..UptoSaid'. A law counts once. -/
mutual
def uptoBulk {H : Type} : DataW H → Nat
  | .lit (.string bytes) => bytes.length + 1
  | .lit _ => 1
  | .nil => 1
  | .ptr d => uptoBulk d + 1
  | .slice elems spare => uptoBulkAll elems + uptoBulkAll spare + 1
  | .agg parts => uptoBulkAll parts + 1
  | .iface _ d => uptoBulk d + 1
  | .map entries => uptoBulkEntries entries + 1
  | .held _ => 1
def uptoBulkAll {H : Type} : List (DataW H) → Nat
  | [] => 0
  | d :: r => uptoBulk d + uptoBulkAll r
def uptoBulkEntries {H : Type} : List (Lit × DataW H) → Nat
  | [] => 0
  | x :: r => uptoBulkEntry x + uptoBulkEntries r
def uptoBulkEntry {H : Type} : Lit × DataW H → Nat
  | (.string bytes, d) => bytes.length + uptoBulk d + 1
  | (_, d) => uptoBulk d + 1
 end
def uptoSmall : (H : Type) → List (DataW H) → Bool := fun _ ds => decide (uptoBulkAll ds ≤ 1048576)
def OpenSpec.upto (s : _root_.Go.ChangeSpec) : _root_.Go.OpenSpec := { _root_.Go.OpenSpec.ofChange s with cond := some uptoSmall }

/-- 'headstocklaw01.WrapTells', WHERE WHAT IT READS IS OF BULK AT MOST 1048576: true; the input reads as it did. -/
def wrapTellsUptoRow : OpenClaim := { program := "ytdhdflbknbnceaa", sum := "f3fb57f9061c93d408f0e94dbffcd1195f8fb2ed3b775a96b40cfd5c7c0e4509", func := "headstock/headstocklaw01.WrapTells", spec := "wrapTells", apart := false, narrowed := true }
def WrapTellsUptoSaid : Prop := wrapTellsUptoRow.holds Try.pinned (OpenSpec.upto wrapTellsSpec)

/-- 'headstocklaw01.WrapTwice', WHERE WHAT IT READS IS OF BULK AT MOST 1048576: true; the input reads as it did. -/
def wrapTwiceUptoRow : OpenClaim := { program := "ytdhdflbknbnceaa", sum := "f3fb57f9061c93d408f0e94dbffcd1195f8fb2ed3b775a96b40cfd5c7c0e4509", func := "headstock/headstocklaw01.WrapTwice", spec := "wrapTwice", apart := false, narrowed := true }
def WrapTwiceUptoSaid : Prop := wrapTwiceUptoRow.holds Try.pinned (OpenSpec.upto wrapTwiceSpec)

/-- 'headstocklaw01.WrapLow', WHERE WHAT IT READS IS OF BULK AT MOST 1048576: true; the input reads as it did. -/
def wrapLowUptoRow : OpenClaim := { program := "ytdhdflbknbnceaa", sum := "f3fb57f9061c93d408f0e94dbffcd1195f8fb2ed3b775a96b40cfd5c7c0e4509", func := "headstock/headstocklaw01.WrapLow", spec := "wrapLow", apart := false, narrowed := true }
def WrapLowUptoSaid : Prop := wrapLowUptoRow.holds Try.pinned (OpenSpec.upto wrapLowSpec)

/-- 'headstocklaw01.WrapDivides', WHERE WHAT IT READS IS OF BULK AT MOST 1048576: true; the input reads as it did. -/
def wrapDividesUptoRow : OpenClaim := { program := "ytdhdflbknbnceaa", sum := "f3fb57f9061c93d408f0e94dbffcd1195f8fb2ed3b775a96b40cfd5c7c0e4509", func := "headstock/headstocklaw01.WrapDivides", spec := "wrapDivides", apart := false, narrowed := true }
def WrapDividesUptoSaid : Prop := wrapDividesUptoRow.holds Try.pinned (OpenSpec.upto wrapDividesSpec)

/-- 'headstocklaw01.WrapHalves', WHERE WHAT IT READS IS OF BULK AT MOST 1048576: true; the input reads as it did. -/
def wrapHalvesUptoRow : OpenClaim := { program := "ytdhdflbknbnceaa", sum := "f3fb57f9061c93d408f0e94dbffcd1195f8fb2ed3b775a96b40cfd5c7c0e4509", func := "headstock/headstocklaw01.WrapHalves", spec := "wrapHalves", apart := false, narrowed := true }
def WrapHalvesUptoSaid : Prop := wrapHalvesUptoRow.holds Try.pinned (OpenSpec.upto wrapHalvesSpec)

/-- 'headstocklaw01.WrapSigns', WHERE WHAT IT READS IS OF BULK AT MOST 1048576: true; the input reads as it did. -/
def wrapSignsUptoRow : OpenClaim := { program := "ytdhdflbknbnceaa", sum := "f3fb57f9061c93d408f0e94dbffcd1195f8fb2ed3b775a96b40cfd5c7c0e4509", func := "headstock/headstocklaw01.WrapSigns", spec := "wrapSigns", apart := false, narrowed := true }
def WrapSignsUptoSaid : Prop := wrapSignsUptoRow.holds Try.pinned (OpenSpec.upto wrapSignsSpec)

/-- 'headstocklaw01.WrapRing', WHERE WHAT IT READS IS OF BULK AT MOST 1048576: true; the input reads as it did. -/
def wrapRingUptoRow : OpenClaim := { program := "ytdhdflbknbnceaa", sum := "f3fb57f9061c93d408f0e94dbffcd1195f8fb2ed3b775a96b40cfd5c7c0e4509", func := "headstock/headstocklaw01.WrapRing", spec := "wrapRing", apart := false, narrowed := true }
def WrapRingUptoSaid : Prop := wrapRingUptoRow.holds Try.pinned (OpenSpec.upto wrapRingSpec)

/-- 'headstocklaw01.WrapBits', WHERE WHAT IT READS IS OF BULK AT MOST 1048576: true; the input reads as it did. -/
def wrapBitsUptoRow : OpenClaim := { program := "ytdhdflbknbnceaa", sum := "f3fb57f9061c93d408f0e94dbffcd1195f8fb2ed3b775a96b40cfd5c7c0e4509", func := "headstock/headstocklaw01.WrapBits", spec := "wrapBits", apart := false, narrowed := true }
def WrapBitsUptoSaid : Prop := wrapBitsUptoRow.holds Try.pinned (OpenSpec.upto wrapBitsSpec)

end Rows
end Go.Proofs.Ytdhdflbknbnceaa
