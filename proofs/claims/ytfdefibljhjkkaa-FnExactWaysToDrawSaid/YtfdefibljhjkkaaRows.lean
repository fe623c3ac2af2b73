/-
  No cell of these rows narrows 'for every input' (looked for: loops, veiled, ifaces, maps, wideKeys, modest, calm, conditions, laid).
  DERIVED. THE GIVEN ROWS OF THIS SEAT. 11 by the template 'for every input the law returns true; each argument reads behind the call as it read before'; 0 by the template 'total and deterministic' (their statements: YtfdefibljhjkkaaTotals.lean).
  GIVEN WITH THE SEED: the statements are not yours to turn. If you find one false, say at which input.
  Laid BY PROGRAM, IN A SANDBOX (cutbox-rows.mjs): the forced cells as the released guide's own fill.sh prints them over the translation 859b952555ae839b… (all of the seat's roots in one cut). By AI agents, Wed Nov 11 2026. No macro, syntax, notation, axiom, sorry.
-/
import Derived.Test.YtfdefibljhjkkaaChecked
import GoSem.Claim
import GoSem.ClaimJoined
import GoSem.ClaimMapViews
import Derived.JoinedTies
import Derived.KernelRfl
namespace Go.Proofs.Ytfdefibljhjkkaa
/- THE CELL 'sum', in the pinned program and in every row, IS THE sha256 OF THE DUMP (.gsa) THAT YtfdefibljhjkkaaProg.lean LOADS. Nothing in Lean hashes anything: it is a label: what it is worth is what the hold of that sum in a sandbox is worth. -/
noncomputable def Try.pinned : Pinned := { name := "ytfdefibljhjkkaa", sum := "859b952555ae839b1961a346d53b2f0f9e1a6c190877dd672014d3ef7b2d471b", checked := Try.checked }
namespace Rows
def none {H : Type} : Left H := { results := [], args := [] }

/-- 'laws.FnExactTimePenalty': WHATEVER THE INPUT: true; the input reads as it did. -/
def fnExactTimePenaltySpec : ChangeSpec := { name := "fnExactTimePenalty", fn := fun _ => fun
  | [d] => { results := [.lit (.bool true)], args := [d] }
  | _ => none }
def fnExactTimePenaltyRow : OpenClaim := { program := "ytfdefibljhjkkaa", sum := "859b952555ae839b1961a346d53b2f0f9e1a6c190877dd672014d3ef7b2d471b", func := "loop.example/g00911/laws.FnExactTimePenalty", spec := "fnExactTimePenalty", apart := false }
def FnExactTimePenaltySaid : Prop := fnExactTimePenaltyRow.holds Try.pinned (OpenSpec.ofChange fnExactTimePenaltySpec)

/-- ITS FALSE NEIGHBOUR: 'it returns false'. Refute it at one input. -/
def fnExactTimePenaltyWrong : ChangeSpec := { name := "fnExactTimePenalty", fn := fun _ => fun
  | [d] => { results := [.lit (.bool false)], args := [d] }
  | _ => none }
def FnExactTimePenaltyWrongFalsely : Prop := fnExactTimePenaltyRow.holds Try.pinned (OpenSpec.ofChange fnExactTimePenaltyWrong)

/-- 'laws.FnExactValidBag': WHATEVER THE INPUT: true; the input reads as it did. -/
def fnExactValidBagSpec : ChangeSpec := { name := "fnExactValidBag", fn := fun _ => fun
  | [d] => { results := [.lit (.bool true)], args := [d] }
  | _ => none }
def fnExactValidBagRow : OpenClaim := { program := "ytfdefibljhjkkaa", sum := "859b952555ae839b1961a346d53b2f0f9e1a6c190877dd672014d3ef7b2d471b", func := "loop.example/g00911/laws.FnExactValidBag", spec := "fnExactValidBag", apart := false }
def FnExactValidBagSaid : Prop := fnExactValidBagRow.holds Try.pinned (OpenSpec.ofChange fnExactValidBagSpec)

/-- ITS FALSE NEIGHBOUR: 'it returns false'. Refute it at one input. -/
def fnExactValidBagWrong : ChangeSpec := { name := "fnExactValidBag", fn := fun _ => fun
  | [d] => { results := [.lit (.bool false)], args := [d] }
  | _ => none }
def FnExactValidBagWrongFalsely : Prop := fnExactValidBagRow.holds Try.pinned (OpenSpec.ofChange fnExactValidBagWrong)

/-- 'laws.FnExactTotalDraws': WHATEVER THE INPUT: true; the input reads as it did. -/
def fnExactTotalDrawsSpec : ChangeSpec := { name := "fnExactTotalDraws", fn := fun _ => fun
  | [d1, d2] => { results := [.lit (.bool true)], args := [d1, d2] }
  | _ => none }
def fnExactTotalDrawsRow : OpenClaim := { program := "ytfdefibljhjkkaa", sum := "859b952555ae839b1961a346d53b2f0f9e1a6c190877dd672014d3ef7b2d471b", func := "loop.example/g00911/laws.FnExactTotalDraws", spec := "fnExactTotalDraws", apart := false }
def FnExactTotalDrawsSaid : Prop := fnExactTotalDrawsRow.holds Try.pinned (OpenSpec.ofChange fnExactTotalDrawsSpec)

/-- ITS FALSE NEIGHBOUR: 'it returns false'. Refute it at one input. -/
def fnExactTotalDrawsWrong : ChangeSpec := { name := "fnExactTotalDraws", fn := fun _ => fun
  | [d1, d2] => { results := [.lit (.bool false)], args := [d1, d2] }
  | _ => none }
def FnExactTotalDrawsWrongFalsely : Prop := fnExactTotalDrawsRow.holds Try.pinned (OpenSpec.ofChange fnExactTotalDrawsWrong)

/-- 'laws.FnExactRuleNames': WHATEVER THE INPUT: true; the input reads as it did. -/
def fnExactRuleNamesSpec : ChangeSpec := { name := "fnExactRuleNames", fn := fun _ => fun
  | [] => { results := [.lit (.bool true)], args := [] }
  | _ => none }
def fnExactRuleNamesRow : OpenClaim := { program := "ytfdefibljhjkkaa", sum := "859b952555ae839b1961a346d53b2f0f9e1a6c190877dd672014d3ef7b2d471b", func := "loop.example/g00911/laws.FnExactRuleNames", spec := "fnExactRuleNames", apart := false }
def FnExactRuleNamesSaid : Prop := fnExactRuleNamesRow.holds Try.pinned (OpenSpec.ofChange fnExactRuleNamesSpec)

/-- ITS FALSE NEIGHBOUR: 'it returns false'. Refute it at one input. -/
def fnExactRuleNamesWrong : ChangeSpec := { name := "fnExactRuleNames", fn := fun _ => fun
  | [] => { results := [.lit (.bool false)], args := [] }
  | _ => none }
def FnExactRuleNamesWrongFalsely : Prop := fnExactRuleNamesRow.holds Try.pinned (OpenSpec.ofChange fnExactRuleNamesWrong)

/-- 'laws.FnExactReturnTiles': WHATEVER THE INPUT: true; the input reads as it did. -/
def fnExactReturnTilesSpec : ChangeSpec := { name := "fnExactReturnTiles", fn := fun _ => fun
  | [d1, d2] => { results := [.lit (.bool true)], args := [d1, d2] }
  | _ => none }
def fnExactReturnTilesRow : OpenClaim := { program := "ytfdefibljhjkkaa", sum := "859b952555ae839b1961a346d53b2f0f9e1a6c190877dd672014d3ef7b2d471b", func := "loop.example/g00911/laws.FnExactReturnTiles", spec := "fnExactReturnTiles", apart := false }
def FnExactReturnTilesSaid : Prop := fnExactReturnTilesRow.holds Try.pinned (OpenSpec.ofChange fnExactReturnTilesSpec)

/-- ITS FALSE NEIGHBOUR: 'it returns false'. Refute it at one input. -/
def fnExactReturnTilesWrong : ChangeSpec := { name := "fnExactReturnTiles", fn := fun _ => fun
  | [d1, d2] => { results := [.lit (.bool false)], args := [d1, d2] }
  | _ => none }
def FnExactReturnTilesWrongFalsely : Prop := fnExactReturnTilesRow.holds Try.pinned (OpenSpec.ofChange fnExactReturnTilesWrong)

/-- 'laws.FnExactSameVerdict': WHATEVER THE INPUT: true; the input reads as it did. -/
def fnExactSameVerdictSpec : ChangeSpec := { name := "fnExactSameVerdict", fn := fun _ => fun
  | [d1, d2] => { results := [.lit (.bool true)], args := [d1, d2] }
  | _ => none }
def fnExactSameVerdictRow : OpenClaim := { program := "ytfdefibljhjkkaa", sum := "859b952555ae839b1961a346d53b2f0f9e1a6c190877dd672014d3ef7b2d471b", func := "loop.example/g00911/laws.FnExactSameVerdict", spec := "fnExactSameVerdict", apart := false }
def FnExactSameVerdictSaid : Prop := fnExactSameVerdictRow.holds Try.pinned (OpenSpec.ofChange fnExactSameVerdictSpec)

/-- ITS FALSE NEIGHBOUR: 'it returns false'. Refute it at one input. -/
def fnExactSameVerdictWrong : ChangeSpec := { name := "fnExactSameVerdict", fn := fun _ => fun
  | [d1, d2] => { results := [.lit (.bool false)], args := [d1, d2] }
  | _ => none }
def FnExactSameVerdictWrongFalsely : Prop := fnExactSameVerdictRow.holds Try.pinned (OpenSpec.ofChange fnExactSameVerdictWrong)

/-- 'laws.FnExactPileOfBag': WHATEVER THE INPUT: true; the input reads as it did. -/
def fnExactPileOfBagSpec : ChangeSpec := { name := "fnExactPileOfBag", fn := fun _ => fun
  | [d] => { results := [.lit (.bool true)], args := [d] }
  | _ => none }
def fnExactPileOfBagRow : OpenClaim := { program := "ytfdefibljhjkkaa", sum := "859b952555ae839b1961a346d53b2f0f9e1a6c190877dd672014d3ef7b2d471b", func := "loop.example/g00911/laws.FnExactPileOfBag", spec := "fnExactPileOfBag", inPlace := ["internal/abi.NoEscape"], apart := false }
def FnExactPileOfBagSaid : Prop := fnExactPileOfBagRow.holds Try.pinned (OpenSpec.ofChange fnExactPileOfBagSpec)

/-- ITS FALSE NEIGHBOUR: 'it returns false'. Refute it at one input. -/
def fnExactPileOfBagWrong : ChangeSpec := { name := "fnExactPileOfBag", fn := fun _ => fun
  | [d] => { results := [.lit (.bool false)], args := [d] }
  | _ => none }
def FnExactPileOfBagWrongFalsely : Prop := fnExactPileOfBagRow.holds Try.pinned (OpenSpec.ofChange fnExactPileOfBagWrong)

/-- 'laws.FnExactDrawTiles': WHATEVER THE INPUT: true; the input reads as it did. -/
def fnExactDrawTilesSpec : ChangeSpec := { name := "fnExactDrawTiles", fn := fun _ => fun
  | [d1, d2] => { results := [.lit (.bool true)], args := [d1, d2] }
  | _ => none }
def fnExactDrawTilesRow : OpenClaim := { program := "ytfdefibljhjkkaa", sum := "859b952555ae839b1961a346d53b2f0f9e1a6c190877dd672014d3ef7b2d471b", func := "loop.example/g00911/laws.FnExactDrawTiles", spec := "fnExactDrawTiles", inPlace := ["internal/abi.NoEscape"], apart := false }
def FnExactDrawTilesSaid : Prop := fnExactDrawTilesRow.holds Try.pinned (OpenSpec.ofChange fnExactDrawTilesSpec)

/-- ITS FALSE NEIGHBOUR: 'it returns false'. Refute it at one input. -/
def fnExactDrawTilesWrong : ChangeSpec := { name := "fnExactDrawTiles", fn := fun _ => fun
  | [d1, d2] => { results := [.lit (.bool false)], args := [d1, d2] }
  | _ => none }
def FnExactDrawTilesWrongFalsely : Prop := fnExactDrawTilesRow.holds Try.pinned (OpenSpec.ofChange fnExactDrawTilesWrong)

/-- 'laws.FnExactCompareMoves': WHATEVER THE INPUT: true; the input reads as it did. -/
def fnExactCompareMovesSpec : ChangeSpec := { name := "fnExactCompareMoves", fn := fun _ => fun
  | [d1, d2] => { results := [.lit (.bool true)], args := [d1, d2] }
  | _ => none }
def fnExactCompareMovesRow : OpenClaim := { program := "ytfdefibljhjkkaa", sum := "859b952555ae839b1961a346d53b2f0f9e1a6c190877dd672014d3ef7b2d471b", func := "loop.example/g00911/laws.FnExactCompareMoves", spec := "fnExactCompareMoves", apart := false }
def FnExactCompareMovesSaid : Prop := fnExactCompareMovesRow.holds Try.pinned (OpenSpec.ofChange fnExactCompareMovesSpec)

/-- ITS FALSE NEIGHBOUR: 'it returns false'. Refute it at one input. -/
def fnExactCompareMovesWrong : ChangeSpec := { name := "fnExactCompareMoves", fn := fun _ => fun
  | [d1, d2] => { results := [.lit (.bool false)], args := [d1, d2] }
  | _ => none }
def FnExactCompareMovesWrongFalsely : Prop := fnExactCompareMovesRow.holds Try.pinned (OpenSpec.ofChange fnExactCompareMovesWrong)

/-- 'laws.FnExactWaysToDraw': WHATEVER THE INPUT: true; the input reads as it did. -/
def fnExactWaysToDrawSpec : ChangeSpec := { name := "fnExactWaysToDraw", fn := fun _ => fun
  | [d1, d2] => { results := [.lit (.bool true)], args := [d1, d2] }
  | _ => none }
def fnExactWaysToDrawRow : OpenClaim := { program := "ytfdefibljhjkkaa", sum := "859b952555ae839b1961a346d53b2f0f9e1a6c190877dd672014d3ef7b2d471b", func := "loop.example/g00911/laws.FnExactWaysToDraw", spec := "fnExactWaysToDraw", apart := false }
def FnExactWaysToDrawSaid : Prop := fnExactWaysToDrawRow.holds Try.pinned (OpenSpec.ofChange fnExactWaysToDrawSpec)

/-- ITS FALSE NEIGHBOUR: 'it returns false'. Refute it at one input. -/
def fnExactWaysToDrawWrong : ChangeSpec := { name := "fnExactWaysToDraw", fn := fun _ => fun
  | [d1, d2] => { results := [.lit (.bool false)], args := [d1, d2] }
  | _ => none }
def FnExactWaysToDrawWrongFalsely : Prop := fnExactWaysToDrawRow.holds Try.pinned (OpenSpec.ofChange fnExactWaysToDrawWrong)

/-- 'laws.FnExactFillRack': WHATEVER THE INPUT: true; the input reads as it did. -/
def fnExactFillRackSpec : ChangeSpec := { name := "fnExactFillRack", fn := fun _ => fun
  | [d1, d2] => { results := [.lit (.bool true)], args := [d1, d2] }
  | _ => none }
def fnExactFillRackRow : OpenClaim := { program := "ytfdefibljhjkkaa", sum := "859b952555ae839b1961a346d53b2f0f9e1a6c190877dd672014d3ef7b2d471b", func := "loop.example/g00911/laws.FnExactFillRack", spec := "fnExactFillRack", inPlace := ["internal/abi.NoEscape"], apart := false }
def FnExactFillRackSaid : Prop := fnExactFillRackRow.holds Try.pinned (OpenSpec.ofChange fnExactFillRackSpec)

/-- ITS FALSE NEIGHBOUR: 'it returns false'. Refute it at one input. -/
def fnExactFillRackWrong : ChangeSpec := { name := "fnExactFillRack", fn := fun _ => fun
  | [d1, d2] => { results := [.lit (.bool false)], args := [d1, d2] }
  | _ => none }
def FnExactFillRackWrongFalsely : Prop := fnExactFillRackRow.holds Try.pinned (OpenSpec.ofChange fnExactFillRackWrong)

/- THE SECOND FORM. 'bulk': how many values and letters a reading holds, each counted each time it is reached (what is shared counts as often as it is met; a slice's spare places count too). A statement '..UptoSaid' is the law's where the arguments, and the package variables that the reading takes, are together of bulk at most 1048576: NARROWER than '..Said'. Prove '..Said' where nothing that the law and all that it calls make is longer than what came in: it says more and counts as full. Else prove '..UptoSaid'. A law counts once. -/
mutual
def uptoBulk {H : Type} : DataW H → Nat
  | .lit (.string bytes) => bytes.length + 1
  | .lit _ => 1
  | .nil => 1
  | .ptr d => uptoBulk d + 1
  | .slice elems spare => uptoBulkAll elems + uptoBulkAll spare + 1
  | .agg parts => uptoBulkAll parts + 1
  | .iface _ d => uptoBulk d + 1
  | .map entries => uptoBulkEntries entries + 1
  | .held _ => 1
def uptoBulkAll {H : Type} : List (DataW H) → Nat
  | [] => 0
  | d :: r => uptoBulk d + uptoBulkAll r
def uptoBulkEntries {H : Type} : List (Lit × DataW H) → Nat
  | [] => 0
  | x :: r => uptoBulkEntry x + uptoBulkEntries r
def uptoBulkEntry {H : Type} : Lit × DataW H → Nat
  | (.string bytes, d) => bytes.length + uptoBulk d + 1
  | (_, d) => uptoBulk d + 1
 end
def uptoSmall : (H : Type) → List (DataW H) → Bool := fun _ ds => decide (uptoBulkAll ds ≤ 1048576)
def OpenSpec.upto (s : _root_.Go.ChangeSpec) : _root_.Go.OpenSpec := { _root_.Go.OpenSpec.ofChange s with cond := some uptoSmall }

/-- 'laws.FnExactTimePenalty', WHERE WHAT IT READS IS OF BULK AT MOST 1048576: true; the input reads as it did. -/
def fnExactTimePenaltyUptoRow : OpenClaim := { program := "ytfdefibljhjkkaa", sum := "859b952555ae839b1961a346d53b2f0f9e1a6c190877dd672014d3ef7b2d471b", func := "loop.example/g00911/laws.FnExactTimePenalty", spec := "fnExactTimePenalty", apart := false, narrowed := true }
def FnExactTimePenaltyUptoSaid : Prop := fnExactTimePenaltyUptoRow.holds Try.pinned (OpenSpec.upto fnExactTimePenaltySpec)

/-- 'laws.FnExactValidBag', WHERE WHAT IT READS IS OF BULK AT MOST 1048576: true; the input reads as it did. -/
def fnExactValidBagUptoRow : OpenClaim := { program := "ytfdefibljhjkkaa", sum := "859b952555ae839b1961a346d53b2f0f9e1a6c190877dd672014d3ef7b2d471b", func := "loop.example/g00911/laws.FnExactValidBag", spec := "fnExactValidBag", apart := false, narrowed := true }
def FnExactValidBagUptoSaid : Prop := fnExactValidBagUptoRow.holds Try.pinned (OpenSpec.upto fnExactValidBagSpec)

/-- 'laws.FnExactTotalDraws', WHERE WHAT IT READS IS OF BULK AT MOST 1048576: true; the input reads as it did. -/
def fnExactTotalDrawsUptoRow : OpenClaim := { program := "ytfdefibljhjkkaa", sum := "859b952555ae839b1961a346d53b2f0f9e1a6c190877dd672014d3ef7b2d471b", func := "loop.example/g00911/laws.FnExactTotalDraws", spec := "fnExactTotalDraws", apart := false, narrowed := true }
def FnExactTotalDrawsUptoSaid : Prop := fnExactTotalDrawsUptoRow.holds Try.pinned (OpenSpec.upto fnExactTotalDrawsSpec)

/-- 'laws.FnExactRuleNames', WHERE WHAT IT READS IS OF BULK AT MOST 1048576: true; the input reads as it did. -/
def fnExactRuleNamesUptoRow : OpenClaim := { program := "ytfdefibljhjkkaa", sum := "859b952555ae839b1961a346d53b2f0f9e1a6c190877dd672014d3ef7b2d471b", func := "loop.example/g00911/laws.FnExactRuleNames", spec := "fnExactRuleNames", apart := false, narrowed := true }
def FnExactRuleNamesUptoSaid : Prop := fnExactRuleNamesUptoRow.holds Try.pinned (OpenSpec.upto fnExactRuleNamesSpec)

/-- 'laws.FnExactReturnTiles', WHERE WHAT IT READS IS OF BULK AT MOST 1048576: true; the input reads as it did. -/
def fnExactReturnTilesUptoRow : OpenClaim := { program := "ytfdefibljhjkkaa", sum := "859b952555ae839b1961a346d53b2f0f9e1a6c190877dd672014d3ef7b2d471b", func := "loop.example/g00911/laws.FnExactReturnTiles", spec := "fnExactReturnTiles", apart := false, narrowed := true }
def FnExactReturnTilesUptoSaid : Prop := fnExactReturnTilesUptoRow.holds Try.pinned (OpenSpec.upto fnExactReturnTilesSpec)

/-- 'laws.FnExactSameVerdict', WHERE WHAT IT READS IS OF BULK AT MOST 1048576: true; the input reads as it did. -/
def fnExactSameVerdictUptoRow : OpenClaim := { program := "ytfdefibljhjkkaa", sum := "859b952555ae839b1961a346d53b2f0f9e1a6c190877dd672014d3ef7b2d471b", func := "loop.example/g00911/laws.FnExactSameVerdict", spec := "fnExactSameVerdict", apart := false, narrowed := true }
def FnExactSameVerdictUptoSaid : Prop := fnExactSameVerdictUptoRow.holds Try.pinned (OpenSpec.upto fnExactSameVerdictSpec)

/-- 'laws.FnExactPileOfBag', WHERE WHAT IT READS IS OF BULK AT MOST 1048576: true; the input reads as it did. -/
def fnExactPileOfBagUptoRow : OpenClaim := { program := "ytfdefibljhjkkaa", sum := "859b952555ae839b1961a346d53b2f0f9e1a6c190877dd672014d3ef7b2d471b", func := "loop.example/g00911/laws.FnExactPileOfBag", spec := "fnExactPileOfBag", inPlace := ["internal/abi.NoEscape"], apart := false, narrowed := true }
def FnExactPileOfBagUptoSaid : Prop := fnExactPileOfBagUptoRow.holds Try.pinned (OpenSpec.upto fnExactPileOfBagSpec)

/-- 'laws.FnExactDrawTiles', WHERE WHAT IT READS IS OF BULK AT MOST 1048576: true; the input reads as it did. -/
def fnExactDrawTilesUptoRow : OpenClaim := { program := "ytfdefibljhjkkaa", sum := "859b952555ae839b1961a346d53b2f0f9e1a6c190877dd672014d3ef7b2d471b", func := "loop.example/g00911/laws.FnExactDrawTiles", spec := "fnExactDrawTiles", inPlace := ["internal/abi.NoEscape"], apart := false, narrowed := true }
def FnExactDrawTilesUptoSaid : Prop := fnExactDrawTilesUptoRow.holds Try.pinned (OpenSpec.upto fnExactDrawTilesSpec)

/-- 'laws.FnExactCompareMoves', WHERE WHAT IT READS IS OF BULK AT MOST 1048576: true; the input reads as it did. -/
def fnExactCompareMovesUptoRow : OpenClaim := { program := "ytfdefibljhjkkaa", sum := "859b952555ae839b1961a346d53b2f0f9e1a6c190877dd672014d3ef7b2d471b", func := "loop.example/g00911/laws.FnExactCompareMoves", spec := "fnExactCompareMoves", apart := false, narrowed := true }
def FnExactCompareMovesUptoSaid : Prop := fnExactCompareMovesUptoRow.holds Try.pinned (OpenSpec.upto fnExactCompareMovesSpec)

/-- 'laws.FnExactWaysToDraw', WHERE WHAT IT READS IS OF BULK AT MOST 1048576: true; the input reads as it did. -/
def fnExactWaysToDrawUptoRow : OpenClaim := { program := "ytfdefibljhjkkaa", sum := "859b952555ae839b1961a346d53b2f0f9e1a6c190877dd672014d3ef7b2d471b", func := "loop.example/g00911/laws.FnExactWaysToDraw", spec := "fnExactWaysToDraw", apart := false, narrowed := true }
def FnExactWaysToDrawUptoSaid : Prop := fnExactWaysToDrawUptoRow.holds Try.pinned (OpenSpec.upto fnExactWaysToDrawSpec)

/-- 'laws.FnExactFillRack', WHERE WHAT IT READS IS OF BULK AT MOST 1048576: true; the input reads as it did. -/
def fnExactFillRackUptoRow : OpenClaim := { program := "ytfdefibljhjkkaa", sum := "859b952555ae839b1961a346d53b2f0f9e1a6c190877dd672014d3ef7b2d471b", func := "loop.example/g00911/laws.FnExactFillRack", spec := "fnExactFillRack", inPlace := ["internal/abi.NoEscape"], apart := false, narrowed := true }
def FnExactFillRackUptoSaid : Prop := fnExactFillRackUptoRow.holds Try.pinned (OpenSpec.upto fnExactFillRackSpec)

end Rows
end Go.Proofs.Ytfdefibljhjkkaa
