/-
  DERIVED. GIVEN WITH THE SEED: THE CARDS: each row of YtgbdklbapdgldaaDoorRows.lean that lists a variable, with what it lists TIED to the program's text (the seventh form; the later family's looks); each row that meets fmt, with fmt's text TOLD by the authors' own Lean function (tested against real Go, not proved from fmt's source: count such statements apart). THE CARD IS WHAT COUNTS. Prove the row's statement (the work); the ties are given (YtgbdklbapdgldaaDoorTie.lean); close each card by the builder's one call (the guide's Derived/Test/ToyasCard.lean, 'card_holds'). Laid BY PROGRAM, IN A SANDBOX (cutbox-door.mjs). By AI agents, Wed Nov 11 2026. No macro, syntax, notation, axiom, sorry.
-/
import Derived.Test.YtgbdklbapdgldaaDoorRows
import GoSem.ClaimSeven
namespace Go.Proofs.YtgbdklbapdgldaaDoor
namespace Rows

/-- THE TIED CARD OF 'laws.FnExactRuleNamed'. -/
def fnExactRuleNamedCard : Claim7 := { stood := { row := fnExactRuleNamedRow, standIns := [], harness := (true, "4d11fa5e6921fbb9cb9dec0feae79c9ed3ca563c0a83eeead872dcf8275bcefe"), looks := true }, kinds := [], alts := [], laidByText := true, laidKinds := [.sentinel], laidTests := true, laidLooks := .later }
def FnExactRuleNamedCardSaid : Prop := Claim7.holds Tryd.pinned (.plain (OpenSpec.ofChange fnExactRuleNamedSpec)) fnExactRuleNamedCard

/-- THE SECOND FORM's CARD OF 'laws.FnExactRuleNamed'. -/
def fnExactRuleNamedUptoCard : Claim7 := { stood := { row := fnExactRuleNamedUptoRow, standIns := [], harness := (true, "4d11fa5e6921fbb9cb9dec0feae79c9ed3ca563c0a83eeead872dcf8275bcefe"), looks := true }, kinds := [], alts := [], laidByText := true, laidKinds := [.sentinel], laidTests := true, laidLooks := .later }
def FnExactRuleNamedUptoCardSaid : Prop := Claim7.holds Tryd.pinned (.plain (OpenSpec.upto fnExactRuleNamedSpec)) fnExactRuleNamedUptoCard
end Rows
end Go.Proofs.YtgbdklbapdgldaaDoor
