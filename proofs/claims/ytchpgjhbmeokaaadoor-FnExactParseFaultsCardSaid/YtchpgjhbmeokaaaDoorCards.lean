/-
  DERIVED. GIVEN WITH THE SEED: THE CARDS: each row of YtchpgjhbmeokaaaDoorRows.lean that lists a variable, with what it lists TIED to the program's text (the seventh form; the later family's looks); each row that meets fmt, with fmt's text TOLD by the authors' own Lean function (tested against real Go, not proved from fmt's source: count such statements apart). THE CARD IS WHAT COUNTS. Prove the row's statement (the work); the ties are given (YtchpgjhbmeokaaaDoorTie.lean); close each card by the builder's one call (the guide's Derived/Test/ToyasCard.lean, 'card_holds'). Laid BY PROGRAM, IN A SANDBOX (cutbox-door.mjs). By AI agents, Wed Nov 11 2026. No macro, syntax, notation, axiom, sorry.
-/
import Derived.Test.YtchpgjhbmeokaaaDoorRows
import GoSem.ClaimSeven
namespace Go.Proofs.YtchpgjhbmeokaaaDoor
namespace Rows

/-- THE TIED CARD OF 'laws.FnExactFormatFaults'. -/
def fnExactFormatFaultsCard : Claim7 := { stood := { row := fnExactFormatFaultsRow, standIns := [], harness := (true, "f43d764ceb3ee02da8ee2d33e4af8ba108d8e6ce40da64ea473611ccfc622e23"), looks := true }, kinds := [], alts := [], laidByText := true, laidKinds := [.data, .data, .data], laidTests := true, laidLooks := .later }
def FnExactFormatFaultsCardSaid : Prop := Claim7.holds Tryd.pinned (.plain (OpenSpec.ofChange fnExactFormatFaultsSpec)) fnExactFormatFaultsCard

/-- THE TIED CARD OF 'laws.FnExactParseFaults'. -/
def fnExactParseFaultsCard : Claim7 := { stood := { row := fnExactParseFaultsRow, standIns := [], harness := (true, "f43d764ceb3ee02da8ee2d33e4af8ba108d8e6ce40da64ea473611ccfc622e23"), looks := true }, kinds := [], alts := [], laidByText := true, laidKinds := [.data, .data, .data, .data, .sentinel, .sentinel, .pinned], laidTests := true, laidLooks := .later }
def FnExactParseFaultsCardSaid : Prop := Claim7.holds Tryd.pinned (.plain (OpenSpec.ofChange fnExactParseFaultsSpec)) fnExactParseFaultsCard

/-- THE SECOND FORM's CARD OF 'laws.FnExactFormatFaults'. -/
def fnExactFormatFaultsUptoCard : Claim7 := { stood := { row := fnExactFormatFaultsUptoRow, standIns := [], harness := (true, "f43d764ceb3ee02da8ee2d33e4af8ba108d8e6ce40da64ea473611ccfc622e23"), looks := true }, kinds := [], alts := [], laidByText := true, laidKinds := [.data, .data, .data], laidTests := true, laidLooks := .later }
def FnExactFormatFaultsUptoCardSaid : Prop := Claim7.holds Tryd.pinned (.plain (OpenSpec.upto fnExactFormatFaultsSpec)) fnExactFormatFaultsUptoCard

/-- THE SECOND FORM's CARD OF 'laws.FnExactParseFaults'. -/
def fnExactParseFaultsUptoCard : Claim7 := { stood := { row := fnExactParseFaultsUptoRow, standIns := [], harness := (true, "f43d764ceb3ee02da8ee2d33e4af8ba108d8e6ce40da64ea473611ccfc622e23"), looks := true }, kinds := [], alts := [], laidByText := true, laidKinds := [.data, .data, .data, .data, .sentinel, .sentinel, .pinned], laidTests := true, laidLooks := .later }
def FnExactParseFaultsUptoCardSaid : Prop := Claim7.holds Tryd.pinned (.plain (OpenSpec.upto fnExactParseFaultsSpec)) fnExactParseFaultsUptoCard
end Rows
end Go.Proofs.YtchpgjhbmeokaaaDoor
