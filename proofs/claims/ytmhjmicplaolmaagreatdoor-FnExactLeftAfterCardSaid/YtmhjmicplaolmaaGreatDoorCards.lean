/-
  DERIVED. GIVEN WITH THE SEED: THE CARDS: each row of YtmhjmicplaolmaaGreatDoorRows.lean that lists a variable, with what it lists TIED to the program's text (the seventh form; the later family's looks); each row that meets fmt, with fmt's text TOLD by the authors' own Lean function (tested against real Go, not proved from fmt's source: count such statements apart). THE CARD IS WHAT COUNTS. Prove the row's statement (the work); the ties are given (YtmhjmicplaolmaaGreatDoorTie.lean); close each card by the builder's one call (the guide's Derived/Test/ToyasCard.lean, 'card_holds'). Laid BY PROGRAM, IN A SANDBOX (cutbox-door.mjs). By AI agents, Wed Nov 11 2026. No macro, syntax, notation, axiom, sorry.
-/
import Derived.Test.YtmhjmicplaolmaaGreatDoorRows
import GoSem.ClaimSeven
namespace Go.Proofs.YtmhjmicplaolmaaGreatDoor
namespace Rows

/-- THE TIED CARD OF 'laws.FnExactCanRemove'. -/
def fnExactCanRemoveCard : Claim7 := { stood := { row := fnExactCanRemoveRow, standIns := [], harness := (true, "9bb5d80e6222f74157937ebb922c5fb023f13a07224af413e732b7549cb21791"), looks := false }, kinds := [], alts := [], laidByText := true, laidKinds := [.data, .pinned], laidTests := true, laidLooks := .later }
def FnExactCanRemoveCardSaid : Prop := Claim7.holds Tryz.pinned (.plain (OpenSpec.ofChange fnExactCanRemoveSpec)) fnExactCanRemoveCard

/-- THE TIED CARD OF 'laws.FnExactLeftAfter'. -/
def fnExactLeftAfterCard : Claim7 := { stood := { row := fnExactLeftAfterRow, standIns := [], harness := (true, "9bb5d80e6222f74157937ebb922c5fb023f13a07224af413e732b7549cb21791"), looks := false }, kinds := [], alts := [], laidByText := true, laidKinds := [.data, .pinned], laidTests := true, laidLooks := .later }
def FnExactLeftAfterCardSaid : Prop := Claim7.holds Tryz.pinned (.plain (OpenSpec.ofChange fnExactLeftAfterSpec)) fnExactLeftAfterCard

/-- THE SECOND FORM's CARD OF 'laws.FnExactCanRemove'. -/
def fnExactCanRemoveUptoCard : Claim7 := { stood := { row := fnExactCanRemoveUptoRow, standIns := [], harness := (true, "9bb5d80e6222f74157937ebb922c5fb023f13a07224af413e732b7549cb21791"), looks := false }, kinds := [], alts := [], laidByText := true, laidKinds := [.data, .pinned], laidTests := true, laidLooks := .later }
def FnExactCanRemoveUptoCardSaid : Prop := Claim7.holds Tryz.pinned (.plain (OpenSpec.upto fnExactCanRemoveSpec)) fnExactCanRemoveUptoCard

/-- THE SECOND FORM's CARD OF 'laws.FnExactLeftAfter'. -/
def fnExactLeftAfterUptoCard : Claim7 := { stood := { row := fnExactLeftAfterUptoRow, standIns := [], harness := (true, "9bb5d80e6222f74157937ebb922c5fb023f13a07224af413e732b7549cb21791"), looks := false }, kinds := [], alts := [], laidByText := true, laidKinds := [.data, .pinned], laidTests := true, laidLooks := .later }
def FnExactLeftAfterUptoCardSaid : Prop := Claim7.holds Tryz.pinned (.plain (OpenSpec.upto fnExactLeftAfterSpec)) fnExactLeftAfterUptoCard
end Rows
end Go.Proofs.YtmhjmicplaolmaaGreatDoor
