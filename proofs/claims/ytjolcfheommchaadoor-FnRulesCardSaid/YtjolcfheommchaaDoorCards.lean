/-
  DERIVED. GIVEN WITH THE SEED: THE CARDS: each row of YtjolcfheommchaaDoorRows.lean that lists a variable, with what it lists TIED to the program's text (the seventh form; the later family's looks); each row that meets fmt, with fmt's text TOLD by the authors' own Lean function (tested against real Go, not proved from fmt's source: count such statements apart). THE CARD IS WHAT COUNTS. Prove the row's statement (the work); the ties are given (YtjolcfheommchaaDoorTie.lean); close each card by the builder's one call (the guide's Derived/Test/ToyasCard.lean, 'card_holds'). Laid BY PROGRAM, IN A SANDBOX (cutbox-door.mjs). By AI agents, Wed Nov 11 2026. No macro, syntax, notation, axiom, sorry.
-/
import Derived.Test.YtjolcfheommchaaDoorRows
import GoSem.ClaimSeven
namespace Go.Proofs.YtjolcfheommchaaDoor
namespace Rows

/-- THE TIED CARD OF 'laws.FnExactVerdictText'. -/
def fnExactVerdictTextCard : Claim7 := { stood := { row := fnExactVerdictTextRow, standIns := [], harness := (true, "6ac9a795c1b41226603d93d73fabb5ebcff6b14a0819f07aa996b777a52a802f"), looks := true }, kinds := [], alts := [], laidByText := true, laidKinds := [.data, .data, .data], laidTests := true, laidLooks := .later }
def FnExactVerdictTextCardSaid : Prop := Claim7.holds Tryd.pinned (.plain (OpenSpec.ofChange fnExactVerdictTextSpec)) fnExactVerdictTextCard

/-- THE TIED CARD OF 'laws.FnRules'. -/
def fnRulesCard : Claim7 := { stood := { row := fnRulesRow, standIns := [], harness := (true, "6ac9a795c1b41226603d93d73fabb5ebcff6b14a0819f07aa996b777a52a802f"), looks := true }, kinds := [], alts := [], laidByText := true, laidKinds := [.sentinel], laidTests := true, laidLooks := .later }
def FnRulesCardSaid : Prop := Claim7.holds Tryd.pinned (.plain (OpenSpec.ofChange fnRulesSpec)) fnRulesCard

/-- THE TIED CARD OF 'laws.FnExactMoveText'. -/
def fnExactMoveTextCard : Claim7 := { stood := { row := fnExactMoveTextRow, standIns := [], harness := (true, "6ac9a795c1b41226603d93d73fabb5ebcff6b14a0819f07aa996b777a52a802f"), looks := true }, kinds := [], alts := [], laidByText := true, laidKinds := [.data, .data, .data, .data, .pinned, .pinned], laidTests := true, laidLooks := .later }
def FnExactMoveTextCardSaid : Prop := Claim7.holds Tryd.pinned (.plain (OpenSpec.ofChange fnExactMoveTextSpec)) fnExactMoveTextCard

/-- THE SECOND FORM's CARD OF 'laws.FnExactVerdictText'. -/
def fnExactVerdictTextUptoCard : Claim7 := { stood := { row := fnExactVerdictTextUptoRow, standIns := [], harness := (true, "6ac9a795c1b41226603d93d73fabb5ebcff6b14a0819f07aa996b777a52a802f"), looks := true }, kinds := [], alts := [], laidByText := true, laidKinds := [.data, .data, .data], laidTests := true, laidLooks := .later }
def FnExactVerdictTextUptoCardSaid : Prop := Claim7.holds Tryd.pinned (.plain (OpenSpec.upto fnExactVerdictTextSpec)) fnExactVerdictTextUptoCard

/-- THE SECOND FORM's CARD OF 'laws.FnRules'. -/
def fnRulesUptoCard : Claim7 := { stood := { row := fnRulesUptoRow, standIns := [], harness := (true, "6ac9a795c1b41226603d93d73fabb5ebcff6b14a0819f07aa996b777a52a802f"), looks := true }, kinds := [], alts := [], laidByText := true, laidKinds := [.sentinel], laidTests := true, laidLooks := .later }
def FnRulesUptoCardSaid : Prop := Claim7.holds Tryd.pinned (.plain (OpenSpec.upto fnRulesSpec)) fnRulesUptoCard

/-- THE SECOND FORM's CARD OF 'laws.FnExactMoveText'. -/
def fnExactMoveTextUptoCard : Claim7 := { stood := { row := fnExactMoveTextUptoRow, standIns := [], harness := (true, "6ac9a795c1b41226603d93d73fabb5ebcff6b14a0819f07aa996b777a52a802f"), looks := true }, kinds := [], alts := [], laidByText := true, laidKinds := [.data, .data, .data, .data, .pinned, .pinned], laidTests := true, laidLooks := .later }
def FnExactMoveTextUptoCardSaid : Prop := Claim7.holds Tryd.pinned (.plain (OpenSpec.upto fnExactMoveTextSpec)) fnExactMoveTextUptoCard
end Rows
end Go.Proofs.YtjolcfheommchaaDoor
