/-
  DERIVED. GIVEN WITH THE SEED: THE CARDS: each row of YtkkcpgahgehedaaDoorRows.lean that lists a variable, with what it lists TIED to the program's text (the seventh form; the later family's looks); each row that meets fmt, with fmt's text TOLD by the authors' own Lean function (tested against real Go, not proved from fmt's source: count such statements apart). THE CARD IS WHAT COUNTS. Prove the row's statement (the work); the ties are given (YtkkcpgahgehedaaDoorTie.lean); close each card by the builder's one call (the guide's Derived/Test/ToyasCard.lean, 'card_holds'). Laid BY PROGRAM, IN A SANDBOX (cutbox-door.mjs). By AI agents, Wed Nov 11 2026. No macro, syntax, notation, axiom, sorry.
-/
import Derived.Test.YtkkcpgahgehedaaDoorRows
import GoSem.ClaimSeven
namespace Go.Proofs.YtkkcpgahgehedaaDoor
namespace Rows

/-- THE TIED CARD OF 'laws.FnExactGoodPath'. -/
def fnExactGoodPathCard : Claim7 := { stood := { row := fnExactGoodPathRow, standIns := [], harness := (true, "70d008f758ff335c451e4c305d633ed905bd085bac1dc7a9a2957950dc335400"), looks := false }, kinds := [], alts := [], laidByText := true, laidKinds := [.data, .pinned], laidTests := true, laidLooks := .later }
def FnExactGoodPathCardSaid : Prop := Claim7.holds Tryd.pinned (.plain (OpenSpec.ofChange fnExactGoodPathSpec)) fnExactGoodPathCard

/-- THE TIED CARD OF 'laws.FnExactPartsOf'. -/
def fnExactPartsOfCard : Claim7 := { stood := { row := fnExactPartsOfRow, standIns := [], harness := (true, "70d008f758ff335c451e4c305d633ed905bd085bac1dc7a9a2957950dc335400"), looks := false }, kinds := [], alts := [], laidByText := true, laidKinds := [.data, .pinned], laidTests := true, laidLooks := .later }
def FnExactPartsOfCardSaid : Prop := Claim7.holds Tryd.pinned (.plain (OpenSpec.ofChange fnExactPartsOfSpec)) fnExactPartsOfCard

/-- THE TIED CARD OF 'laws.FnExactPathOf'. -/
def fnExactPathOfCard : Claim7 := { stood := { row := fnExactPathOfRow, standIns := [], harness := (true, "70d008f758ff335c451e4c305d633ed905bd085bac1dc7a9a2957950dc335400"), looks := false }, kinds := [], alts := [], laidByText := true, laidKinds := [.data, .pinned], laidTests := true, laidLooks := .later }
def FnExactPathOfCardSaid : Prop := Claim7.holds Tryd.pinned (.plain (OpenSpec.ofChange fnExactPathOfSpec)) fnExactPathOfCard

/-- THE TIED CARD OF 'laws.FnExactCleanPath'. -/
def fnExactCleanPathCard : Claim7 := { stood := { row := fnExactCleanPathRow, standIns := [], harness := (true, "70d008f758ff335c451e4c305d633ed905bd085bac1dc7a9a2957950dc335400"), looks := false }, kinds := [], alts := [], laidByText := true, laidKinds := [.data, .pinned], laidTests := true, laidLooks := .later }
def FnExactCleanPathCardSaid : Prop := Claim7.holds Tryd.pinned (.plain (OpenSpec.ofChange fnExactCleanPathSpec)) fnExactCleanPathCard

/-- THE TIED CARD OF 'laws.FnExactBaseOf'. -/
def fnExactBaseOfCard : Claim7 := { stood := { row := fnExactBaseOfRow, standIns := [], harness := (true, "70d008f758ff335c451e4c305d633ed905bd085bac1dc7a9a2957950dc335400"), looks := false }, kinds := [], alts := [], laidByText := true, laidKinds := [.data, .pinned], laidTests := true, laidLooks := .later }
def FnExactBaseOfCardSaid : Prop := Claim7.holds Tryd.pinned (.plain (OpenSpec.ofChange fnExactBaseOfSpec)) fnExactBaseOfCard

/-- THE TIED CARD OF 'laws.FnExactJoinPath'. -/
def fnExactJoinPathCard : Claim7 := { stood := { row := fnExactJoinPathRow, standIns := [], harness := (true, "70d008f758ff335c451e4c305d633ed905bd085bac1dc7a9a2957950dc335400"), looks := false }, kinds := [], alts := [], laidByText := true, laidKinds := [.data, .pinned], laidTests := true, laidLooks := .later }
def FnExactJoinPathCardSaid : Prop := Claim7.holds Tryd.pinned (.plain (OpenSpec.ofChange fnExactJoinPathSpec)) fnExactJoinPathCard

/-- THE TIED CARD OF 'laws.FnExactIsWithin'. -/
def fnExactIsWithinCard : Claim7 := { stood := { row := fnExactIsWithinRow, standIns := [], harness := (true, "70d008f758ff335c451e4c305d633ed905bd085bac1dc7a9a2957950dc335400"), looks := false }, kinds := [], alts := [], laidByText := true, laidKinds := [.data, .pinned], laidTests := true, laidLooks := .later }
def FnExactIsWithinCardSaid : Prop := Claim7.holds Tryd.pinned (.plain (OpenSpec.ofChange fnExactIsWithinSpec)) fnExactIsWithinCard

/-- THE TIED CARD OF 'laws.FnExactFromTo'. -/
def fnExactFromToCard : Claim7 := { stood := { row := fnExactFromToRow, standIns := [], harness := (true, "70d008f758ff335c451e4c305d633ed905bd085bac1dc7a9a2957950dc335400"), looks := false }, kinds := [], alts := [], laidByText := true, laidKinds := [.data, .pinned], laidTests := true, laidLooks := .later }
def FnExactFromToCardSaid : Prop := Claim7.holds Tryd.pinned (.plain (OpenSpec.ofChange fnExactFromToSpec)) fnExactFromToCard

/-- THE TIED CARD OF 'laws.FnExactDirOf'. -/
def fnExactDirOfCard : Claim7 := { stood := { row := fnExactDirOfRow, standIns := [], harness := (true, "70d008f758ff335c451e4c305d633ed905bd085bac1dc7a9a2957950dc335400"), looks := false }, kinds := [], alts := [], laidByText := true, laidKinds := [.data, .pinned], laidTests := true, laidLooks := .later }
def FnExactDirOfCardSaid : Prop := Claim7.holds Tryd.pinned (.plain (OpenSpec.ofChange fnExactDirOfSpec)) fnExactDirOfCard

/-- THE TIED CARD OF 'laws.FnExactLinesText'. -/
def fnExactLinesTextCard : Claim7 := { stood := { row := fnExactLinesTextRow, standIns := [], harness := (true, "70d008f758ff335c451e4c305d633ed905bd085bac1dc7a9a2957950dc335400"), looks := false }, kinds := [], alts := [], laidByText := true, laidKinds := [.data, .data, .data, .data, .pinned], laidTests := true, laidLooks := .later }
def FnExactLinesTextCardSaid : Prop := Claim7.holds Tryd.pinned (.plain (OpenSpec.ofChange fnExactLinesTextSpec)) fnExactLinesTextCard

/-- THE TIED CARD OF 'laws.FnExactFaultsText'. -/
def fnExactFaultsTextCard : Claim7 := { stood := { row := fnExactFaultsTextRow, standIns := [], harness := (true, "70d008f758ff335c451e4c305d633ed905bd085bac1dc7a9a2957950dc335400"), looks := false }, kinds := [], alts := [], laidByText := true, laidKinds := [.data, .pinned], laidTests := true, laidLooks := .later }
def FnExactFaultsTextCardSaid : Prop := Claim7.holds Tryd.pinned (.plain (OpenSpec.ofChange fnExactFaultsTextSpec)) fnExactFaultsTextCard

/-- THE SECOND FORM's CARD OF 'laws.FnExactGoodPath'. -/
def fnExactGoodPathUptoCard : Claim7 := { stood := { row := fnExactGoodPathUptoRow, standIns := [], harness := (true, "70d008f758ff335c451e4c305d633ed905bd085bac1dc7a9a2957950dc335400"), looks := false }, kinds := [], alts := [], laidByText := true, laidKinds := [.data, .pinned], laidTests := true, laidLooks := .later }
def FnExactGoodPathUptoCardSaid : Prop := Claim7.holds Tryd.pinned (.plain (OpenSpec.upto fnExactGoodPathSpec)) fnExactGoodPathUptoCard

/-- THE SECOND FORM's CARD OF 'laws.FnExactPartsOf'. -/
def fnExactPartsOfUptoCard : Claim7 := { stood := { row := fnExactPartsOfUptoRow, standIns := [], harness := (true, "70d008f758ff335c451e4c305d633ed905bd085bac1dc7a9a2957950dc335400"), looks := false }, kinds := [], alts := [], laidByText := true, laidKinds := [.data, .pinned], laidTests := true, laidLooks := .later }
def FnExactPartsOfUptoCardSaid : Prop := Claim7.holds Tryd.pinned (.plain (OpenSpec.upto fnExactPartsOfSpec)) fnExactPartsOfUptoCard

/-- THE SECOND FORM's CARD OF 'laws.FnExactPathOf'. -/
def fnExactPathOfUptoCard : Claim7 := { stood := { row := fnExactPathOfUptoRow, standIns := [], harness := (true, "70d008f758ff335c451e4c305d633ed905bd085bac1dc7a9a2957950dc335400"), looks := false }, kinds := [], alts := [], laidByText := true, laidKinds := [.data, .pinned], laidTests := true, laidLooks := .later }
def FnExactPathOfUptoCardSaid : Prop := Claim7.holds Tryd.pinned (.plain (OpenSpec.upto fnExactPathOfSpec)) fnExactPathOfUptoCard

/-- THE SECOND FORM's CARD OF 'laws.FnExactCleanPath'. -/
def fnExactCleanPathUptoCard : Claim7 := { stood := { row := fnExactCleanPathUptoRow, standIns := [], harness := (true, "70d008f758ff335c451e4c305d633ed905bd085bac1dc7a9a2957950dc335400"), looks := false }, kinds := [], alts := [], laidByText := true, laidKinds := [.data, .pinned], laidTests := true, laidLooks := .later }
def FnExactCleanPathUptoCardSaid : Prop := Claim7.holds Tryd.pinned (.plain (OpenSpec.upto fnExactCleanPathSpec)) fnExactCleanPathUptoCard

/-- THE SECOND FORM's CARD OF 'laws.FnExactBaseOf'. -/
def fnExactBaseOfUptoCard : Claim7 := { stood := { row := fnExactBaseOfUptoRow, standIns := [], harness := (true, "70d008f758ff335c451e4c305d633ed905bd085bac1dc7a9a2957950dc335400"), looks := false }, kinds := [], alts := [], laidByText := true, laidKinds := [.data, .pinned], laidTests := true, laidLooks := .later }
def FnExactBaseOfUptoCardSaid : Prop := Claim7.holds Tryd.pinned (.plain (OpenSpec.upto fnExactBaseOfSpec)) fnExactBaseOfUptoCard

/-- THE SECOND FORM's CARD OF 'laws.FnExactJoinPath'. -/
def fnExactJoinPathUptoCard : Claim7 := { stood := { row := fnExactJoinPathUptoRow, standIns := [], harness := (true, "70d008f758ff335c451e4c305d633ed905bd085bac1dc7a9a2957950dc335400"), looks := false }, kinds := [], alts := [], laidByText := true, laidKinds := [.data, .pinned], laidTests := true, laidLooks := .later }
def FnExactJoinPathUptoCardSaid : Prop := Claim7.holds Tryd.pinned (.plain (OpenSpec.upto fnExactJoinPathSpec)) fnExactJoinPathUptoCard

/-- THE SECOND FORM's CARD OF 'laws.FnExactIsWithin'. -/
def fnExactIsWithinUptoCard : Claim7 := { stood := { row := fnExactIsWithinUptoRow, standIns := [], harness := (true, "70d008f758ff335c451e4c305d633ed905bd085bac1dc7a9a2957950dc335400"), looks := false }, kinds := [], alts := [], laidByText := true, laidKinds := [.data, .pinned], laidTests := true, laidLooks := .later }
def FnExactIsWithinUptoCardSaid : Prop := Claim7.holds Tryd.pinned (.plain (OpenSpec.upto fnExactIsWithinSpec)) fnExactIsWithinUptoCard

/-- THE SECOND FORM's CARD OF 'laws.FnExactFromTo'. -/
def fnExactFromToUptoCard : Claim7 := { stood := { row := fnExactFromToUptoRow, standIns := [], harness := (true, "70d008f758ff335c451e4c305d633ed905bd085bac1dc7a9a2957950dc335400"), looks := false }, kinds := [], alts := [], laidByText := true, laidKinds := [.data, .pinned], laidTests := true, laidLooks := .later }
def FnExactFromToUptoCardSaid : Prop := Claim7.holds Tryd.pinned (.plain (OpenSpec.upto fnExactFromToSpec)) fnExactFromToUptoCard

/-- THE SECOND FORM's CARD OF 'laws.FnExactDirOf'. -/
def fnExactDirOfUptoCard : Claim7 := { stood := { row := fnExactDirOfUptoRow, standIns := [], harness := (true, "70d008f758ff335c451e4c305d633ed905bd085bac1dc7a9a2957950dc335400"), looks := false }, kinds := [], alts := [], laidByText := true, laidKinds := [.data, .pinned], laidTests := true, laidLooks := .later }
def FnExactDirOfUptoCardSaid : Prop := Claim7.holds Tryd.pinned (.plain (OpenSpec.upto fnExactDirOfSpec)) fnExactDirOfUptoCard

/-- THE SECOND FORM's CARD OF 'laws.FnExactLinesText'. -/
def fnExactLinesTextUptoCard : Claim7 := { stood := { row := fnExactLinesTextUptoRow, standIns := [], harness := (true, "70d008f758ff335c451e4c305d633ed905bd085bac1dc7a9a2957950dc335400"), looks := false }, kinds := [], alts := [], laidByText := true, laidKinds := [.data, .data, .data, .data, .pinned], laidTests := true, laidLooks := .later }
def FnExactLinesTextUptoCardSaid : Prop := Claim7.holds Tryd.pinned (.plain (OpenSpec.upto fnExactLinesTextSpec)) fnExactLinesTextUptoCard

/-- THE SECOND FORM's CARD OF 'laws.FnExactFaultsText'. -/
def fnExactFaultsTextUptoCard : Claim7 := { stood := { row := fnExactFaultsTextUptoRow, standIns := [], harness := (true, "70d008f758ff335c451e4c305d633ed905bd085bac1dc7a9a2957950dc335400"), looks := false }, kinds := [], alts := [], laidByText := true, laidKinds := [.data, .pinned], laidTests := true, laidLooks := .later }
def FnExactFaultsTextUptoCardSaid : Prop := Claim7.holds Tryd.pinned (.plain (OpenSpec.upto fnExactFaultsTextSpec)) fnExactFaultsTextUptoCard
end Rows
end Go.Proofs.YtkkcpgahgehedaaDoor
