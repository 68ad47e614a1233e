/-
  DERIVED. GIVEN WITH THE SEED: THE CARDS: each row of YtdjceippnokimaaGreatDoorRows.lean that lists a variable, with what it lists TIED to the program's text (the seventh form; the later family's looks); each row that meets fmt, with fmt's text TOLD by the authors' own Lean function (tested against real Go, not proved from fmt's source: count such statements apart). THE CARD IS WHAT COUNTS. Prove the row's statement (the work); the ties are given (YtdjceippnokimaaGreatDoorTie.lean); close each card by the builder's one call (the guide's Derived/Test/ToyasCard.lean, 'card_holds'). Laid BY PROGRAM, IN A SANDBOX (cutbox-door.mjs). By AI agents, Wed Nov 11 2026. No macro, syntax, notation, axiom, sorry.
-/
import Derived.Test.YtdjceippnokimaaGreatDoorRows
import GoSem.ClaimSeven
namespace Go.Proofs.YtdjceippnokimaaGreatDoor
namespace Rows

/-- THE TIED CARD OF 'laws.FnExactSameTree'. -/
def fnExactSameTreeCard : Claim7 := { stood := { row := fnExactSameTreeRow, standIns := [], harness := (true, "5df7089b80cdd715c9ddb3112652c14cb277386bae92126dd9e168da07626e90"), looks := false }, kinds := [], alts := [], laidByText := true, laidKinds := [.data, .data, .data, .data, .pinned], laidTests := true, laidLooks := .later }
def FnExactSameTreeCardSaid : Prop := Claim7.holds Tryz.pinned (.plain (OpenSpec.ofChange fnExactSameTreeSpec)) fnExactSameTreeCard

/-- THE TIED CARD OF 'laws.FnExactGroupsIn'. -/
def fnExactGroupsInCard : Claim7 := { stood := { row := fnExactGroupsInRow, standIns := [], harness := (true, "5df7089b80cdd715c9ddb3112652c14cb277386bae92126dd9e168da07626e90"), looks := false }, kinds := [], alts := [], laidByText := true, laidKinds := [.data, .pinned], laidTests := true, laidLooks := .later }
def FnExactGroupsInCardSaid : Prop := Claim7.holds Tryz.pinned (.plain (OpenSpec.ofChange fnExactGroupsInSpec)) fnExactGroupsInCard

/-- THE TIED CARD OF 'laws.FnExactTreeText'. -/
def fnExactTreeTextCard : Claim7 := { stood := { row := fnExactTreeTextRow, standIns := [], harness := (true, "5df7089b80cdd715c9ddb3112652c14cb277386bae92126dd9e168da07626e90"), looks := false }, kinds := [], alts := [], laidByText := true, laidKinds := [.data, .data, .data, .data, .pinned], laidTests := true, laidLooks := .later }
def FnExactTreeTextCardSaid : Prop := Claim7.holds Tryz.pinned (.plain (OpenSpec.ofChange fnExactTreeTextSpec)) fnExactTreeTextCard

/-- THE SECOND FORM's CARD OF 'laws.FnExactSameTree'. -/
def fnExactSameTreeUptoCard : Claim7 := { stood := { row := fnExactSameTreeUptoRow, standIns := [], harness := (true, "5df7089b80cdd715c9ddb3112652c14cb277386bae92126dd9e168da07626e90"), looks := false }, kinds := [], alts := [], laidByText := true, laidKinds := [.data, .data, .data, .data, .pinned], laidTests := true, laidLooks := .later }
def FnExactSameTreeUptoCardSaid : Prop := Claim7.holds Tryz.pinned (.plain (OpenSpec.upto fnExactSameTreeSpec)) fnExactSameTreeUptoCard

/-- THE SECOND FORM's CARD OF 'laws.FnExactGroupsIn'. -/
def fnExactGroupsInUptoCard : Claim7 := { stood := { row := fnExactGroupsInUptoRow, standIns := [], harness := (true, "5df7089b80cdd715c9ddb3112652c14cb277386bae92126dd9e168da07626e90"), looks := false }, kinds := [], alts := [], laidByText := true, laidKinds := [.data, .pinned], laidTests := true, laidLooks := .later }
def FnExactGroupsInUptoCardSaid : Prop := Claim7.holds Tryz.pinned (.plain (OpenSpec.upto fnExactGroupsInSpec)) fnExactGroupsInUptoCard

/-- THE SECOND FORM's CARD OF 'laws.FnExactTreeText'. -/
def fnExactTreeTextUptoCard : Claim7 := { stood := { row := fnExactTreeTextUptoRow, standIns := [], harness := (true, "5df7089b80cdd715c9ddb3112652c14cb277386bae92126dd9e168da07626e90"), looks := false }, kinds := [], alts := [], laidByText := true, laidKinds := [.data, .data, .data, .data, .pinned], laidTests := true, laidLooks := .later }
def FnExactTreeTextUptoCardSaid : Prop := Claim7.holds Tryz.pinned (.plain (OpenSpec.upto fnExactTreeTextSpec)) fnExactTreeTextUptoCard
end Rows
end Go.Proofs.YtdjceippnokimaaGreatDoor
