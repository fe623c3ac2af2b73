/-
  No cell of these rows narrows 'for every input' (looked for: loops, veiled, ifaces, maps, wideKeys, modest, calm, conditions, laid).
  DERIVED. THE GIVEN ROWS OF THIS SEAT. 9 by the template 'for every input the law returns true; each argument reads behind the call as it read before'; 0 by the template 'total and deterministic' (their statements: YtjolcfheommchaaTotals.lean).
  GIVEN WITH THE SEED: the statements are not yours to turn. If you find one false, say at which input.
  Laid BY PROGRAM, IN A SANDBOX (cutbox-rows.mjs): the forced cells as the released guide's own fill.sh prints them over the translation 44991d2e7c3ed40b… (all of the seat's roots in one cut). By AI agents, Wed Nov 11 2026. No macro, syntax, notation, axiom, sorry.
-/
import Derived.Test.YtjolcfheommchaaChecked
import GoSem.Claim
import GoSem.ClaimJoined
import GoSem.ClaimMapViews
import Derived.JoinedTies
import Derived.KernelRfl
namespace Go.Proofs.Ytjolcfheommchaa
/- THE CELL 'sum', in the pinned program and in every row, IS THE sha256 OF THE DUMP (.gsa) THAT YtjolcfheommchaaProg.lean LOADS. Nothing in Lean hashes anything: it is a label: what it is worth is what the hold of that sum in a sandbox is worth. -/
noncomputable def Try.pinned : Pinned := { name := "ytjolcfheommchaa", sum := "44991d2e7c3ed40bc7795760e99727d693c82804065bdda39706409164d54937", checked := Try.checked }
namespace Rows
def none {H : Type} : Left H := { results := [], args := [] }

/-- 'laws.FnExactDrawsFrom': WHATEVER THE INPUT: true; the input reads as it did. -/
def fnExactDrawsFromSpec : ChangeSpec := { name := "fnExactDrawsFrom", fn := fun _ => fun
  | [d1, d2] => { results := [.lit (.bool true)], args := [d1, d2] }
  | _ => none }
def fnExactDrawsFromRow : OpenClaim := { program := "ytjolcfheommchaa", sum := "44991d2e7c3ed40bc7795760e99727d693c82804065bdda39706409164d54937", func := "loop.example/g00911/laws.FnExactDrawsFrom", spec := "fnExactDrawsFrom", unfollowed := true, recurses := true, apart := false }
def FnExactDrawsFromSaid : Prop := fnExactDrawsFromRow.holds Try.pinned (OpenSpec.ofChange fnExactDrawsFromSpec)

/-- ITS FALSE NEIGHBOUR: 'it returns false'. Refute it at one input. -/
def fnExactDrawsFromWrong : ChangeSpec := { name := "fnExactDrawsFrom", fn := fun _ => fun
  | [d1, d2] => { results := [.lit (.bool false)], args := [d1, d2] }
  | _ => none }
def FnExactDrawsFromWrongFalsely : Prop := fnExactDrawsFromRow.holds Try.pinned (OpenSpec.ofChange fnExactDrawsFromWrong)

/-- 'laws.FnExactExchangeTiles': WHATEVER THE INPUT: true; the input reads as it did. -/
def fnExactExchangeTilesSpec : ChangeSpec := { name := "fnExactExchangeTiles", fn := fun _ => fun
  | [d1, d2, d3] => { results := [.lit (.bool true)], args := [d1, d2, d3] }
  | _ => none }
def fnExactExchangeTilesRow : OpenClaim := { program := "ytjolcfheommchaa", sum := "44991d2e7c3ed40bc7795760e99727d693c82804065bdda39706409164d54937", func := "loop.example/g00911/laws.FnExactExchangeTiles", spec := "fnExactExchangeTiles", inPlace := ["internal/abi.NoEscape"], apart := false }
def FnExactExchangeTilesSaid : Prop := fnExactExchangeTilesRow.holds Try.pinned (OpenSpec.ofChange fnExactExchangeTilesSpec)

/-- ITS FALSE NEIGHBOUR: 'it returns false'. Refute it at one input. -/
def fnExactExchangeTilesWrong : ChangeSpec := { name := "fnExactExchangeTiles", fn := fun _ => fun
  | [d1, d2, d3] => { results := [.lit (.bool false)], args := [d1, d2, d3] }
  | _ => none }
def FnExactExchangeTilesWrongFalsely : Prop := fnExactExchangeTilesRow.holds Try.pinned (OpenSpec.ofChange fnExactExchangeTilesWrong)

/-- 'laws.FnExactAdjudicate': WHATEVER THE INPUT: true; the input reads as it did. -/
def fnExactAdjudicateSpec : ChangeSpec := { name := "fnExactAdjudicate", fn := fun _ => fun
  | [d1, d2] => { results := [.lit (.bool true)], args := [d1, d2] }
  | _ => none }
def fnExactAdjudicateRow : OpenClaim := { program := "ytjolcfheommchaa", sum := "44991d2e7c3ed40bc7795760e99727d693c82804065bdda39706409164d54937", func := "loop.example/g00911/laws.FnExactAdjudicate", spec := "fnExactAdjudicate", unfollowed := true, recurses := true, apart := false }
def FnExactAdjudicateSaid : Prop := fnExactAdjudicateRow.holds Try.pinned (OpenSpec.ofChange fnExactAdjudicateSpec)

/-- ITS FALSE NEIGHBOUR: 'it returns false'. Refute it at one input. -/
def fnExactAdjudicateWrong : ChangeSpec := { name := "fnExactAdjudicate", fn := fun _ => fun
  | [d1, d2] => { results := [.lit (.bool false)], args := [d1, d2] }
  | _ => none }
def FnExactAdjudicateWrongFalsely : Prop := fnExactAdjudicateRow.holds Try.pinned (OpenSpec.ofChange fnExactAdjudicateWrong)

/-- 'laws.FnDraws': WHATEVER THE INPUT: true; the input reads as it did. -/
def fnDrawsSpec : ChangeSpec := { name := "fnDraws", fn := fun _ => fun
  | [d] => { results := [.lit (.bool true)], args := [d] }
  | _ => none }
def fnDrawsRow : OpenClaim := { program := "ytjolcfheommchaa", sum := "44991d2e7c3ed40bc7795760e99727d693c82804065bdda39706409164d54937", func := "loop.example/g00911/laws.FnDraws", spec := "fnDraws", unfollowed := true, recurses := true, apart := false }
def FnDrawsSaid : Prop := fnDrawsRow.holds Try.pinned (OpenSpec.ofChange fnDrawsSpec)

/-- ITS FALSE NEIGHBOUR: 'it returns false'. Refute it at one input. -/
def fnDrawsWrong : ChangeSpec := { name := "fnDraws", fn := fun _ => fun
  | [d] => { results := [.lit (.bool false)], args := [d] }
  | _ => none }
def FnDrawsWrongFalsely : Prop := fnDrawsRow.holds Try.pinned (OpenSpec.ofChange fnDrawsWrong)

/-- 'laws.FnExactShuffleBag': WHATEVER THE INPUT: true; the input reads as it did. -/
def fnExactShuffleBagSpec : ChangeSpec := { name := "fnExactShuffleBag", fn := fun _ => fun
  | [d1, d2] => { results := [.lit (.bool true)], args := [d1, d2] }
  | _ => none }
def fnExactShuffleBagRow : OpenClaim := { program := "ytjolcfheommchaa", sum := "44991d2e7c3ed40bc7795760e99727d693c82804065bdda39706409164d54937", func := "loop.example/g00911/laws.FnExactShuffleBag", spec := "fnExactShuffleBag", inPlace := ["internal/abi.NoEscape", "internal/bytealg.MakeNoZero"], unfollowed := true, recurses := true, apart := false }
def FnExactShuffleBagSaid : Prop := fnExactShuffleBagRow.holds Try.pinned (OpenSpec.ofChange fnExactShuffleBagSpec)

/-- ITS FALSE NEIGHBOUR: 'it returns false'. Refute it at one input. -/
def fnExactShuffleBagWrong : ChangeSpec := { name := "fnExactShuffleBag", fn := fun _ => fun
  | [d1, d2] => { results := [.lit (.bool false)], args := [d1, d2] }
  | _ => none }
def FnExactShuffleBagWrongFalsely : Prop := fnExactShuffleBagRow.holds Try.pinned (OpenSpec.ofChange fnExactShuffleBagWrong)

/-- 'laws.FnExchanges': WHATEVER THE INPUT: true; the input reads as it did. -/
def fnExchangesSpec : ChangeSpec := { name := "fnExchanges", fn := fun _ => fun
  | [d] => { results := [.lit (.bool true)], args := [d] }
  | _ => none }
def fnExchangesRow : OpenClaim := { program := "ytjolcfheommchaa", sum := "44991d2e7c3ed40bc7795760e99727d693c82804065bdda39706409164d54937", func := "loop.example/g00911/laws.FnExchanges", spec := "fnExchanges", inPlace := ["internal/abi.NoEscape"], recurses := true, apart := false }
def FnExchangesSaid : Prop := fnExchangesRow.holds Try.pinned (OpenSpec.ofChange fnExchangesSpec)

/-- ITS FALSE NEIGHBOUR: 'it returns false'. Refute it at one input. -/
def fnExchangesWrong : ChangeSpec := { name := "fnExchanges", fn := fun _ => fun
  | [d] => { results := [.lit (.bool false)], args := [d] }
  | _ => none }
def FnExchangesWrongFalsely : Prop := fnExchangesRow.holds Try.pinned (OpenSpec.ofChange fnExchangesWrong)

/-- 'laws.FnExactSameGame': WHATEVER THE INPUT: true; the input reads as it did. -/
def fnExactSameGameSpec : ChangeSpec := { name := "fnExactSameGame", fn := fun _ => fun
  | [d1, d2] => { results := [.lit (.bool true)], args := [d1, d2] }
  | _ => none }
def fnExactSameGameRow : OpenClaim := { program := "ytjolcfheommchaa", sum := "44991d2e7c3ed40bc7795760e99727d693c82804065bdda39706409164d54937", func := "loop.example/g00911/laws.FnExactSameGame", spec := "fnExactSameGame", apart := false }
def FnExactSameGameSaid : Prop := fnExactSameGameRow.holds Try.pinned (OpenSpec.ofChange fnExactSameGameSpec)

/-- ITS FALSE NEIGHBOUR: 'it returns false'. Refute it at one input. -/
def fnExactSameGameWrong : ChangeSpec := { name := "fnExactSameGame", fn := fun _ => fun
  | [d1, d2] => { results := [.lit (.bool false)], args := [d1, d2] }
  | _ => none }
def FnExactSameGameWrongFalsely : Prop := fnExactSameGameRow.holds Try.pinned (OpenSpec.ofChange fnExactSameGameWrong)

/-- 'laws.FnBags': WHATEVER THE INPUT: true; the input reads as it did. -/
def fnBagsSpec : ChangeSpec := { name := "fnBags", fn := fun _ => fun
  | [d] => { results := [.lit (.bool true)], args := [d] }
  | _ => none }
def fnBagsRow : OpenClaim := { program := "ytjolcfheommchaa", sum := "44991d2e7c3ed40bc7795760e99727d693c82804065bdda39706409164d54937", func := "loop.example/g00911/laws.FnBags", spec := "fnBags", inPlace := ["internal/abi.NoEscape", "internal/bytealg.MakeNoZero"], unfollowed := true, recurses := true, apart := false }
def FnBagsSaid : Prop := fnBagsRow.holds Try.pinned (OpenSpec.ofChange fnBagsSpec)

/-- ITS FALSE NEIGHBOUR: 'it returns false'. Refute it at one input. -/
def fnBagsWrong : ChangeSpec := { name := "fnBags", fn := fun _ => fun
  | [d] => { results := [.lit (.bool false)], args := [d] }
  | _ => none }
def FnBagsWrongFalsely : Prop := fnBagsRow.holds Try.pinned (OpenSpec.ofChange fnBagsWrong)

/-- 'laws.FnExactSortMoves': WHATEVER THE INPUT: true; the input reads as it did. -/
def fnExactSortMovesSpec : ChangeSpec := { name := "fnExactSortMoves", fn := fun _ => fun
  | [d] => { results := [.lit (.bool true)], args := [d] }
  | _ => none }
def fnExactSortMovesRow : OpenClaim := { program := "ytjolcfheommchaa", sum := "44991d2e7c3ed40bc7795760e99727d693c82804065bdda39706409164d54937", func := "loop.example/g00911/laws.FnExactSortMoves", spec := "fnExactSortMoves", unfollowed := true, recurses := true, apart := false }
def FnExactSortMovesSaid : Prop := fnExactSortMovesRow.holds Try.pinned (OpenSpec.ofChange fnExactSortMovesSpec)

/-- ITS FALSE NEIGHBOUR: 'it returns false'. Refute it at one input. -/
def fnExactSortMovesWrong : ChangeSpec := { name := "fnExactSortMoves", fn := fun _ => fun
  | [d] => { results := [.lit (.bool false)], args := [d] }
  | _ => none }
def FnExactSortMovesWrongFalsely : Prop := fnExactSortMovesRow.holds Try.pinned (OpenSpec.ofChange fnExactSortMovesWrong)

/- THE SECOND FORM. 'bulk': how many values and letters a reading holds, each counted each time it is reached (what is shared counts as often as it is met; a slice's spare places count too). A statement '..UptoSaid' is the law's where the arguments, and the package variables that the reading takes, are together of bulk at most 1048576: NARROWER than '..Said'. Prove '..Said' where nothing that the law and all that it calls make is longer than what came in: it says more and counts as full. Else prove '..UptoSaid'. A law counts once. -/
mutual
def uptoBulk {H : Type} : DataW H → Nat
  | .lit (.string bytes) => bytes.length + 1
  | .lit _ => 1
  | .nil => 1
  | .ptr d => uptoBulk d + 1
  | .slice elems spare => uptoBulkAll elems + uptoBulkAll spare + 1
  | .agg parts => uptoBulkAll parts + 1
  | .iface _ d => uptoBulk d + 1
  | .map entries => uptoBulkEntries entries + 1
  | .held _ => 1
def uptoBulkAll {H : Type} : List (DataW H) → Nat
  | [] => 0
  | d :: r => uptoBulk d + uptoBulkAll r
def uptoBulkEntries {H : Type} : List (Lit × DataW H) → Nat
  | [] => 0
  | x :: r => uptoBulkEntry x + uptoBulkEntries r
def uptoBulkEntry {H : Type} : Lit × DataW H → Nat
  | (.string bytes, d) => bytes.length + uptoBulk d + 1
  | (_, d) => uptoBulk d + 1
 end
def uptoSmall : (H : Type) → List (DataW H) → Bool := fun _ ds => decide (uptoBulkAll ds ≤ 1048576)
def OpenSpec.upto (s : _root_.Go.ChangeSpec) : _root_.Go.OpenSpec := { _root_.Go.OpenSpec.ofChange s with cond := some uptoSmall }

/-- 'laws.FnExactDrawsFrom', WHERE WHAT IT READS IS OF BULK AT MOST 1048576: true; the input reads as it did. -/
def fnExactDrawsFromUptoRow : OpenClaim := { program := "ytjolcfheommchaa", sum := "44991d2e7c3ed40bc7795760e99727d693c82804065bdda39706409164d54937", func := "loop.example/g00911/laws.FnExactDrawsFrom", spec := "fnExactDrawsFrom", unfollowed := true, recurses := true, apart := false, narrowed := true }
def FnExactDrawsFromUptoSaid : Prop := fnExactDrawsFromUptoRow.holds Try.pinned (OpenSpec.upto fnExactDrawsFromSpec)

/-- 'laws.FnExactExchangeTiles', WHERE WHAT IT READS IS OF BULK AT MOST 1048576: true; the input reads as it did. -/
def fnExactExchangeTilesUptoRow : OpenClaim := { program := "ytjolcfheommchaa", sum := "44991d2e7c3ed40bc7795760e99727d693c82804065bdda39706409164d54937", func := "loop.example/g00911/laws.FnExactExchangeTiles", spec := "fnExactExchangeTiles", inPlace := ["internal/abi.NoEscape"], apart := false, narrowed := true }
def FnExactExchangeTilesUptoSaid : Prop := fnExactExchangeTilesUptoRow.holds Try.pinned (OpenSpec.upto fnExactExchangeTilesSpec)

/-- 'laws.FnExactAdjudicate', WHERE WHAT IT READS IS OF BULK AT MOST 1048576: true; the input reads as it did. -/
def fnExactAdjudicateUptoRow : OpenClaim := { program := "ytjolcfheommchaa", sum := "44991d2e7c3ed40bc7795760e99727d693c82804065bdda39706409164d54937", func := "loop.example/g00911/laws.FnExactAdjudicate", spec := "fnExactAdjudicate", unfollowed := true, recurses := true, apart := false, narrowed := true }
def FnExactAdjudicateUptoSaid : Prop := fnExactAdjudicateUptoRow.holds Try.pinned (OpenSpec.upto fnExactAdjudicateSpec)

/-- 'laws.FnDraws', WHERE WHAT IT READS IS OF BULK AT MOST 1048576: true; the input reads as it did. -/
def fnDrawsUptoRow : OpenClaim := { program := "ytjolcfheommchaa", sum := "44991d2e7c3ed40bc7795760e99727d693c82804065bdda39706409164d54937", func := "loop.example/g00911/laws.FnDraws", spec := "fnDraws", unfollowed := true, recurses := true, apart := false, narrowed := true }
def FnDrawsUptoSaid : Prop := fnDrawsUptoRow.holds Try.pinned (OpenSpec.upto fnDrawsSpec)

/-- 'laws.FnExactShuffleBag', WHERE WHAT IT READS IS OF BULK AT MOST 1048576: true; the input reads as it did. -/
def fnExactShuffleBagUptoRow : OpenClaim := { program := "ytjolcfheommchaa", sum := "44991d2e7c3ed40bc7795760e99727d693c82804065bdda39706409164d54937", func := "loop.example/g00911/laws.FnExactShuffleBag", spec := "fnExactShuffleBag", inPlace := ["internal/abi.NoEscape", "internal/bytealg.MakeNoZero"], unfollowed := true, recurses := true, apart := false, narrowed := true }
def FnExactShuffleBagUptoSaid : Prop := fnExactShuffleBagUptoRow.holds Try.pinned (OpenSpec.upto fnExactShuffleBagSpec)

/-- 'laws.FnExchanges', WHERE WHAT IT READS IS OF BULK AT MOST 1048576: true; the input reads as it did. -/
def fnExchangesUptoRow : OpenClaim := { program := "ytjolcfheommchaa", sum := "44991d2e7c3ed40bc7795760e99727d693c82804065bdda39706409164d54937", func := "loop.example/g00911/laws.FnExchanges", spec := "fnExchanges", inPlace := ["internal/abi.NoEscape"], recurses := true, apart := false, narrowed := true }
def FnExchangesUptoSaid : Prop := fnExchangesUptoRow.holds Try.pinned (OpenSpec.upto fnExchangesSpec)

/-- 'laws.FnExactSameGame', WHERE WHAT IT READS IS OF BULK AT MOST 1048576: true; the input reads as it did. -/
def fnExactSameGameUptoRow : OpenClaim := { program := "ytjolcfheommchaa", sum := "44991d2e7c3ed40bc7795760e99727d693c82804065bdda39706409164d54937", func := "loop.example/g00911/laws.FnExactSameGame", spec := "fnExactSameGame", apart := false, narrowed := true }
def FnExactSameGameUptoSaid : Prop := fnExactSameGameUptoRow.holds Try.pinned (OpenSpec.upto fnExactSameGameSpec)

/-- 'laws.FnBags', WHERE WHAT IT READS IS OF BULK AT MOST 1048576: true; the input reads as it did. -/
def fnBagsUptoRow : OpenClaim := { program := "ytjolcfheommchaa", sum := "44991d2e7c3ed40bc7795760e99727d693c82804065bdda39706409164d54937", func := "loop.example/g00911/laws.FnBags", spec := "fnBags", inPlace := ["internal/abi.NoEscape", "internal/bytealg.MakeNoZero"], unfollowed := true, recurses := true, apart := false, narrowed := true }
def FnBagsUptoSaid : Prop := fnBagsUptoRow.holds Try.pinned (OpenSpec.upto fnBagsSpec)

/-- 'laws.FnExactSortMoves', WHERE WHAT IT READS IS OF BULK AT MOST 1048576: true; the input reads as it did. -/
def fnExactSortMovesUptoRow : OpenClaim := { program := "ytjolcfheommchaa", sum := "44991d2e7c3ed40bc7795760e99727d693c82804065bdda39706409164d54937", func := "loop.example/g00911/laws.FnExactSortMoves", spec := "fnExactSortMoves", unfollowed := true, recurses := true, apart := false, narrowed := true }
def FnExactSortMovesUptoSaid : Prop := fnExactSortMovesUptoRow.holds Try.pinned (OpenSpec.upto fnExactSortMovesSpec)

end Rows
end Go.Proofs.Ytjolcfheommchaa
