/-
  DERIVED. GIVEN WITH THE SEED: THE CARDS: each row of YtnmiglfmainhiaaGreatDoorRows.lean that lists a variable, with what it lists TIED to the program's text (the seventh form; the later family's looks); each row that meets fmt, with fmt's text TOLD by the authors' own Lean function (tested against real Go, not proved from fmt's source: count such statements apart). THE CARD IS WHAT COUNTS. Prove the row's statement (the work); the ties are given (YtnmiglfmainhiaaGreatDoorTie.lean); close each card by the builder's one call (the guide's Derived/Test/ToyasCard.lean, 'card_holds'). Laid BY PROGRAM, IN A SANDBOX (cutbox-door.mjs). By AI agents, Wed Nov 11 2026. No macro, syntax, notation, axiom, sorry.
-/
import Derived.Test.YtnmiglfmainhiaaGreatDoorRows
import GoSem.ClaimSeven
namespace Go.Proofs.YtnmiglfmainhiaaGreatDoor
namespace Rows

/-- THE TIED CARD OF 'laws.FnExactNodesBelow'. -/
def fnExactNodesBelowCard : Claim7 := { stood := { row := fnExactNodesBelowRow, standIns := [], harness := (true, "0a8f6d2ca7ea626910f2e1ab2fbaaa5a9feaaaf2e46a17c22f8c1814b9652bf3"), looks := false }, kinds := [], alts := [], laidByText := true, laidKinds := [.data, .pinned], laidTests := true, laidLooks := .later }
def FnExactNodesBelowCardSaid : Prop := Claim7.holds Tryz.pinned (.plain (OpenSpec.ofChange fnExactNodesBelowSpec)) fnExactNodesBelowCard

/-- THE TIED CARD OF 'laws.FnExactTreeText'. -/
def fnExactTreeTextCard : Claim7 := { stood := { row := fnExactTreeTextRow, standIns := [], harness := (true, "0a8f6d2ca7ea626910f2e1ab2fbaaa5a9feaaaf2e46a17c22f8c1814b9652bf3"), looks := false }, kinds := [], alts := [], laidByText := true, laidKinds := [.data, .data, .data, .data, .pinned], laidTests := true, laidLooks := .later }
def FnExactTreeTextCardSaid : Prop := Claim7.holds Tryz.pinned (.plain (OpenSpec.ofChange fnExactTreeTextSpec)) fnExactTreeTextCard

/-- THE TIED CARD OF 'laws.FnExactSizeBelow'. -/
def fnExactSizeBelowCard : Claim7 := { stood := { row := fnExactSizeBelowRow, standIns := [], harness := (true, "0a8f6d2ca7ea626910f2e1ab2fbaaa5a9feaaaf2e46a17c22f8c1814b9652bf3"), looks := false }, kinds := [], alts := [], laidByText := true, laidKinds := [.data, .pinned], laidTests := true, laidLooks := .later }
def FnExactSizeBelowCardSaid : Prop := Claim7.holds Tryz.pinned (.plain (OpenSpec.ofChange fnExactSizeBelowSpec)) fnExactSizeBelowCard

/-- THE TIED CARD OF 'laws.FnExactCopyNeeds'. -/
def fnExactCopyNeedsCard : Claim7 := { stood := { row := fnExactCopyNeedsRow, standIns := [], harness := (true, "0a8f6d2ca7ea626910f2e1ab2fbaaa5a9feaaaf2e46a17c22f8c1814b9652bf3"), looks := false }, kinds := [], alts := [], laidByText := true, laidKinds := [.data, .pinned], laidTests := true, laidLooks := .later }
def FnExactCopyNeedsCardSaid : Prop := Claim7.holds Tryz.pinned (.plain (OpenSpec.ofChange fnExactCopyNeedsSpec)) fnExactCopyNeedsCard

/-- THE TIED CARD OF 'laws.FnExactSameTree'. -/
def fnExactSameTreeCard : Claim7 := { stood := { row := fnExactSameTreeRow, standIns := [], harness := (true, "0a8f6d2ca7ea626910f2e1ab2fbaaa5a9feaaaf2e46a17c22f8c1814b9652bf3"), looks := false }, kinds := [], alts := [], laidByText := true, laidKinds := [.data, .data, .data, .data, .pinned], laidTests := true, laidLooks := .later }
def FnExactSameTreeCardSaid : Prop := Claim7.holds Tryz.pinned (.plain (OpenSpec.ofChange fnExactSameTreeSpec)) fnExactSameTreeCard

/-- THE TIED CARD OF 'laws.FnExactSameBut'. -/
def fnExactSameButCard : Claim7 := { stood := { row := fnExactSameButRow, standIns := [], harness := (true, "0a8f6d2ca7ea626910f2e1ab2fbaaa5a9feaaaf2e46a17c22f8c1814b9652bf3"), looks := false }, kinds := [], alts := [], laidByText := true, laidKinds := [.data, .data, .data, .data, .pinned], laidTests := true, laidLooks := .later }
def FnExactSameButCardSaid : Prop := Claim7.holds Tryz.pinned (.plain (OpenSpec.ofChange fnExactSameButSpec)) fnExactSameButCard

/-- THE TIED CARD OF 'laws.FnExactLeftAfter'. -/
def fnExactLeftAfterCard : Claim7 := { stood := { row := fnExactLeftAfterRow, standIns := [], harness := (true, "0a8f6d2ca7ea626910f2e1ab2fbaaa5a9feaaaf2e46a17c22f8c1814b9652bf3"), looks := false }, kinds := [], alts := [], laidByText := true, laidKinds := [.data, .pinned], laidTests := true, laidLooks := .later }
def FnExactLeftAfterCardSaid : Prop := Claim7.holds Tryz.pinned (.plain (OpenSpec.ofChange fnExactLeftAfterSpec)) fnExactLeftAfterCard

/-- THE SECOND FORM's CARD OF 'laws.FnExactNodesBelow'. -/
def fnExactNodesBelowUptoCard : Claim7 := { stood := { row := fnExactNodesBelowUptoRow, standIns := [], harness := (true, "0a8f6d2ca7ea626910f2e1ab2fbaaa5a9feaaaf2e46a17c22f8c1814b9652bf3"), looks := false }, kinds := [], alts := [], laidByText := true, laidKinds := [.data, .pinned], laidTests := true, laidLooks := .later }
def FnExactNodesBelowUptoCardSaid : Prop := Claim7.holds Tryz.pinned (.plain (OpenSpec.upto fnExactNodesBelowSpec)) fnExactNodesBelowUptoCard

/-- THE SECOND FORM's CARD OF 'laws.FnExactTreeText'. -/
def fnExactTreeTextUptoCard : Claim7 := { stood := { row := fnExactTreeTextUptoRow, standIns := [], harness := (true, "0a8f6d2ca7ea626910f2e1ab2fbaaa5a9feaaaf2e46a17c22f8c1814b9652bf3"), looks := false }, kinds := [], alts := [], laidByText := true, laidKinds := [.data, .data, .data, .data, .pinned], laidTests := true, laidLooks := .later }
def FnExactTreeTextUptoCardSaid : Prop := Claim7.holds Tryz.pinned (.plain (OpenSpec.upto fnExactTreeTextSpec)) fnExactTreeTextUptoCard

/-- THE SECOND FORM's CARD OF 'laws.FnExactSizeBelow'. -/
def fnExactSizeBelowUptoCard : Claim7 := { stood := { row := fnExactSizeBelowUptoRow, standIns := [], harness := (true, "0a8f6d2ca7ea626910f2e1ab2fbaaa5a9feaaaf2e46a17c22f8c1814b9652bf3"), looks := false }, kinds := [], alts := [], laidByText := true, laidKinds := [.data, .pinned], laidTests := true, laidLooks := .later }
def FnExactSizeBelowUptoCardSaid : Prop := Claim7.holds Tryz.pinned (.plain (OpenSpec.upto fnExactSizeBelowSpec)) fnExactSizeBelowUptoCard

/-- THE SECOND FORM's CARD OF 'laws.FnExactCopyNeeds'. -/
def fnExactCopyNeedsUptoCard : Claim7 := { stood := { row := fnExactCopyNeedsUptoRow, standIns := [], harness := (true, "0a8f6d2ca7ea626910f2e1ab2fbaaa5a9feaaaf2e46a17c22f8c1814b9652bf3"), looks := false }, kinds := [], alts := [], laidByText := true, laidKinds := [.data, .pinned], laidTests := true, laidLooks := .later }
def FnExactCopyNeedsUptoCardSaid : Prop := Claim7.holds Tryz.pinned (.plain (OpenSpec.upto fnExactCopyNeedsSpec)) fnExactCopyNeedsUptoCard

/-- THE SECOND FORM's CARD OF 'laws.FnExactSameTree'. -/
def fnExactSameTreeUptoCard : Claim7 := { stood := { row := fnExactSameTreeUptoRow, standIns := [], harness := (true, "0a8f6d2ca7ea626910f2e1ab2fbaaa5a9feaaaf2e46a17c22f8c1814b9652bf3"), looks := false }, kinds := [], alts := [], laidByText := true, laidKinds := [.data, .data, .data, .data, .pinned], laidTests := true, laidLooks := .later }
def FnExactSameTreeUptoCardSaid : Prop := Claim7.holds Tryz.pinned (.plain (OpenSpec.upto fnExactSameTreeSpec)) fnExactSameTreeUptoCard

/-- THE SECOND FORM's CARD OF 'laws.FnExactSameBut'. -/
def fnExactSameButUptoCard : Claim7 := { stood := { row := fnExactSameButUptoRow, standIns := [], harness := (true, "0a8f6d2ca7ea626910f2e1ab2fbaaa5a9feaaaf2e46a17c22f8c1814b9652bf3"), looks := false }, kinds := [], alts := [], laidByText := true, laidKinds := [.data, .data, .data, .data, .pinned], laidTests := true, laidLooks := .later }
def FnExactSameButUptoCardSaid : Prop := Claim7.holds Tryz.pinned (.plain (OpenSpec.upto fnExactSameButSpec)) fnExactSameButUptoCard

/-- THE SECOND FORM's CARD OF 'laws.FnExactLeftAfter'. -/
def fnExactLeftAfterUptoCard : Claim7 := { stood := { row := fnExactLeftAfterUptoRow, standIns := [], harness := (true, "0a8f6d2ca7ea626910f2e1ab2fbaaa5a9feaaaf2e46a17c22f8c1814b9652bf3"), looks := false }, kinds := [], alts := [], laidByText := true, laidKinds := [.data, .pinned], laidTests := true, laidLooks := .later }
def FnExactLeftAfterUptoCardSaid : Prop := Claim7.holds Tryz.pinned (.plain (OpenSpec.upto fnExactLeftAfterSpec)) fnExactLeftAfterUptoCard
end Rows
end Go.Proofs.YtnmiglfmainhiaaGreatDoor
