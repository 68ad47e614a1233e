/-
  DERIVED. GIVEN WITH THE SEED: THE CARDS: each row of YteffcglgdfhkmaaDoorRows.lean that lists a variable, with what it lists TIED to the program's text (the seventh form; the later family's looks); each row that meets fmt, with fmt's text TOLD by the authors' own Lean function (tested against real Go, not proved from fmt's source: count such statements apart). THE CARD IS WHAT COUNTS. Prove the row's statement (the work); the ties are given (YteffcglgdfhkmaaDoorTie.lean); close each card by the builder's one call (the guide's Derived/Test/ToyasCard.lean, 'card_holds'). Laid BY PROGRAM, IN A SANDBOX (cutbox-door.mjs). By AI agents, Wed Nov 11 2026. No macro, syntax, notation, axiom, sorry.
-/
import Derived.Test.YteffcglgdfhkmaaDoorRows
import GoSem.ClaimSeven
namespace Go.Proofs.YteffcglgdfhkmaaDoor
namespace Rows

/-- THE TIED CARD OF 'laws.FnExactGoodFs'. -/
def fnExactGoodFsCard : Claim7 := { stood := { row := fnExactGoodFsRow, standIns := [], harness := (true, "3522d30eebf91af5f024def5529aa2c548ce973f7fa11d4d7b2aa0fa6c021d3d"), looks := false }, kinds := [], alts := [], laidByText := true, laidKinds := [.data, .pinned], laidTests := true, laidLooks := .later }
def FnExactGoodFsCardSaid : Prop := Claim7.holds Tryd.pinned (.plain (OpenSpec.ofChange fnExactGoodFsSpec)) fnExactGoodFsCard

/-- THE TIED CARD OF 'laws.FnExactBytesIn'. -/
def fnExactBytesInCard : Claim7 := { stood := { row := fnExactBytesInRow, standIns := [], harness := (true, "3522d30eebf91af5f024def5529aa2c548ce973f7fa11d4d7b2aa0fa6c021d3d"), looks := false }, kinds := [], alts := [], laidByText := true, laidKinds := [.data, .pinned], laidTests := true, laidLooks := .later }
def FnExactBytesInCardSaid : Prop := Claim7.holds Tryd.pinned (.plain (OpenSpec.ofChange fnExactBytesInSpec)) fnExactBytesInCard

/-- THE TIED CARD OF 'laws.FnExactLinksOf'. -/
def fnExactLinksOfCard : Claim7 := { stood := { row := fnExactLinksOfRow, standIns := [], harness := (true, "3522d30eebf91af5f024def5529aa2c548ce973f7fa11d4d7b2aa0fa6c021d3d"), looks := false }, kinds := [], alts := [], laidByText := true, laidKinds := [.data, .pinned], laidTests := true, laidLooks := .later }
def FnExactLinksOfCardSaid : Prop := Claim7.holds Tryd.pinned (.plain (OpenSpec.ofChange fnExactLinksOfSpec)) fnExactLinksOfCard

/-- THE TIED CARD OF 'laws.FnExactFreeNode'. -/
def fnExactFreeNodeCard : Claim7 := { stood := { row := fnExactFreeNodeRow, standIns := [], harness := (true, "3522d30eebf91af5f024def5529aa2c548ce973f7fa11d4d7b2aa0fa6c021d3d"), looks := false }, kinds := [], alts := [], laidByText := true, laidKinds := [.data, .pinned], laidTests := true, laidLooks := .later }
def FnExactFreeNodeCardSaid : Prop := Claim7.holds Tryd.pinned (.plain (OpenSpec.ofChange fnExactFreeNodeSpec)) fnExactFreeNodeCard

/-- THE TIED CARD OF 'laws.FnExactParentOf'. -/
def fnExactParentOfCard : Claim7 := { stood := { row := fnExactParentOfRow, standIns := [], harness := (true, "3522d30eebf91af5f024def5529aa2c548ce973f7fa11d4d7b2aa0fa6c021d3d"), looks := false }, kinds := [], alts := [], laidByText := true, laidKinds := [.data, .pinned], laidTests := true, laidLooks := .later }
def FnExactParentOfCardSaid : Prop := Claim7.holds Tryd.pinned (.plain (OpenSpec.ofChange fnExactParentOfSpec)) fnExactParentOfCard

/-- THE TIED CARD OF 'laws.FnExactPathTo'. -/
def fnExactPathToCard : Claim7 := { stood := { row := fnExactPathToRow, standIns := [], harness := (true, "3522d30eebf91af5f024def5529aa2c548ce973f7fa11d4d7b2aa0fa6c021d3d"), looks := false }, kinds := [], alts := [], laidByText := true, laidKinds := [.data, .pinned], laidTests := true, laidLooks := .later }
def FnExactPathToCardSaid : Prop := Claim7.holds Tryd.pinned (.plain (OpenSpec.ofChange fnExactPathToSpec)) fnExactPathToCard

/-- THE TIED CARD OF 'laws.FnExactDeepOf'. -/
def fnExactDeepOfCard : Claim7 := { stood := { row := fnExactDeepOfRow, standIns := [], harness := (true, "3522d30eebf91af5f024def5529aa2c548ce973f7fa11d4d7b2aa0fa6c021d3d"), looks := false }, kinds := [], alts := [], laidByText := true, laidKinds := [.data, .pinned], laidTests := true, laidLooks := .later }
def FnExactDeepOfCardSaid : Prop := Claim7.holds Tryd.pinned (.plain (OpenSpec.ofChange fnExactDeepOfSpec)) fnExactDeepOfCard

/-- THE TIED CARD OF 'laws.FnExactWalkPost'. -/
def fnExactWalkPostCard : Claim7 := { stood := { row := fnExactWalkPostRow, standIns := [], harness := (true, "3522d30eebf91af5f024def5529aa2c548ce973f7fa11d4d7b2aa0fa6c021d3d"), looks := false }, kinds := [], alts := [], laidByText := true, laidKinds := [.data, .pinned], laidTests := true, laidLooks := .later }
def FnExactWalkPostCardSaid : Prop := Claim7.holds Tryd.pinned (.plain (OpenSpec.ofChange fnExactWalkPostSpec)) fnExactWalkPostCard

/-- THE TIED CARD OF 'laws.FnExactWalkPre'. -/
def fnExactWalkPreCard : Claim7 := { stood := { row := fnExactWalkPreRow, standIns := [], harness := (true, "3522d30eebf91af5f024def5529aa2c548ce973f7fa11d4d7b2aa0fa6c021d3d"), looks := false }, kinds := [], alts := [], laidByText := true, laidKinds := [.data, .pinned], laidTests := true, laidLooks := .later }
def FnExactWalkPreCardSaid : Prop := Claim7.holds Tryd.pinned (.plain (OpenSpec.ofChange fnExactWalkPreSpec)) fnExactWalkPreCard

/-- THE TIED CARD OF 'laws.FnExactOwnedBy'. -/
def fnExactOwnedByCard : Claim7 := { stood := { row := fnExactOwnedByRow, standIns := [], harness := (true, "3522d30eebf91af5f024def5529aa2c548ce973f7fa11d4d7b2aa0fa6c021d3d"), looks := false }, kinds := [], alts := [], laidByText := true, laidKinds := [.data, .pinned], laidTests := true, laidLooks := .later }
def FnExactOwnedByCardSaid : Prop := Claim7.holds Tryd.pinned (.plain (OpenSpec.ofChange fnExactOwnedBySpec)) fnExactOwnedByCard

/-- THE SECOND FORM's CARD OF 'laws.FnExactGoodFs'. -/
def fnExactGoodFsUptoCard : Claim7 := { stood := { row := fnExactGoodFsUptoRow, standIns := [], harness := (true, "3522d30eebf91af5f024def5529aa2c548ce973f7fa11d4d7b2aa0fa6c021d3d"), looks := false }, kinds := [], alts := [], laidByText := true, laidKinds := [.data, .pinned], laidTests := true, laidLooks := .later }
def FnExactGoodFsUptoCardSaid : Prop := Claim7.holds Tryd.pinned (.plain (OpenSpec.upto fnExactGoodFsSpec)) fnExactGoodFsUptoCard

/-- THE SECOND FORM's CARD OF 'laws.FnExactBytesIn'. -/
def fnExactBytesInUptoCard : Claim7 := { stood := { row := fnExactBytesInUptoRow, standIns := [], harness := (true, "3522d30eebf91af5f024def5529aa2c548ce973f7fa11d4d7b2aa0fa6c021d3d"), looks := false }, kinds := [], alts := [], laidByText := true, laidKinds := [.data, .pinned], laidTests := true, laidLooks := .later }
def FnExactBytesInUptoCardSaid : Prop := Claim7.holds Tryd.pinned (.plain (OpenSpec.upto fnExactBytesInSpec)) fnExactBytesInUptoCard

/-- THE SECOND FORM's CARD OF 'laws.FnExactLinksOf'. -/
def fnExactLinksOfUptoCard : Claim7 := { stood := { row := fnExactLinksOfUptoRow, standIns := [], harness := (true, "3522d30eebf91af5f024def5529aa2c548ce973f7fa11d4d7b2aa0fa6c021d3d"), looks := false }, kinds := [], alts := [], laidByText := true, laidKinds := [.data, .pinned], laidTests := true, laidLooks := .later }
def FnExactLinksOfUptoCardSaid : Prop := Claim7.holds Tryd.pinned (.plain (OpenSpec.upto fnExactLinksOfSpec)) fnExactLinksOfUptoCard

/-- THE SECOND FORM's CARD OF 'laws.FnExactFreeNode'. -/
def fnExactFreeNodeUptoCard : Claim7 := { stood := { row := fnExactFreeNodeUptoRow, standIns := [], harness := (true, "3522d30eebf91af5f024def5529aa2c548ce973f7fa11d4d7b2aa0fa6c021d3d"), looks := false }, kinds := [], alts := [], laidByText := true, laidKinds := [.data, .pinned], laidTests := true, laidLooks := .later }
def FnExactFreeNodeUptoCardSaid : Prop := Claim7.holds Tryd.pinned (.plain (OpenSpec.upto fnExactFreeNodeSpec)) fnExactFreeNodeUptoCard

/-- THE SECOND FORM's CARD OF 'laws.FnExactParentOf'. -/
def fnExactParentOfUptoCard : Claim7 := { stood := { row := fnExactParentOfUptoRow, standIns := [], harness := (true, "3522d30eebf91af5f024def5529aa2c548ce973f7fa11d4d7b2aa0fa6c021d3d"), looks := false }, kinds := [], alts := [], laidByText := true, laidKinds := [.data, .pinned], laidTests := true, laidLooks := .later }
def FnExactParentOfUptoCardSaid : Prop := Claim7.holds Tryd.pinned (.plain (OpenSpec.upto fnExactParentOfSpec)) fnExactParentOfUptoCard

/-- THE SECOND FORM's CARD OF 'laws.FnExactPathTo'. -/
def fnExactPathToUptoCard : Claim7 := { stood := { row := fnExactPathToUptoRow, standIns := [], harness := (true, "3522d30eebf91af5f024def5529aa2c548ce973f7fa11d4d7b2aa0fa6c021d3d"), looks := false }, kinds := [], alts := [], laidByText := true, laidKinds := [.data, .pinned], laidTests := true, laidLooks := .later }
def FnExactPathToUptoCardSaid : Prop := Claim7.holds Tryd.pinned (.plain (OpenSpec.upto fnExactPathToSpec)) fnExactPathToUptoCard

/-- THE SECOND FORM's CARD OF 'laws.FnExactDeepOf'. -/
def fnExactDeepOfUptoCard : Claim7 := { stood := { row := fnExactDeepOfUptoRow, standIns := [], harness := (true, "3522d30eebf91af5f024def5529aa2c548ce973f7fa11d4d7b2aa0fa6c021d3d"), looks := false }, kinds := [], alts := [], laidByText := true, laidKinds := [.data, .pinned], laidTests := true, laidLooks := .later }
def FnExactDeepOfUptoCardSaid : Prop := Claim7.holds Tryd.pinned (.plain (OpenSpec.upto fnExactDeepOfSpec)) fnExactDeepOfUptoCard

/-- THE SECOND FORM's CARD OF 'laws.FnExactWalkPost'. -/
def fnExactWalkPostUptoCard : Claim7 := { stood := { row := fnExactWalkPostUptoRow, standIns := [], harness := (true, "3522d30eebf91af5f024def5529aa2c548ce973f7fa11d4d7b2aa0fa6c021d3d"), looks := false }, kinds := [], alts := [], laidByText := true, laidKinds := [.data, .pinned], laidTests := true, laidLooks := .later }
def FnExactWalkPostUptoCardSaid : Prop := Claim7.holds Tryd.pinned (.plain (OpenSpec.upto fnExactWalkPostSpec)) fnExactWalkPostUptoCard

/-- THE SECOND FORM's CARD OF 'laws.FnExactWalkPre'. -/
def fnExactWalkPreUptoCard : Claim7 := { stood := { row := fnExactWalkPreUptoRow, standIns := [], harness := (true, "3522d30eebf91af5f024def5529aa2c548ce973f7fa11d4d7b2aa0fa6c021d3d"), looks := false }, kinds := [], alts := [], laidByText := true, laidKinds := [.data, .pinned], laidTests := true, laidLooks := .later }
def FnExactWalkPreUptoCardSaid : Prop := Claim7.holds Tryd.pinned (.plain (OpenSpec.upto fnExactWalkPreSpec)) fnExactWalkPreUptoCard

/-- THE SECOND FORM's CARD OF 'laws.FnExactOwnedBy'. -/
def fnExactOwnedByUptoCard : Claim7 := { stood := { row := fnExactOwnedByUptoRow, standIns := [], harness := (true, "3522d30eebf91af5f024def5529aa2c548ce973f7fa11d4d7b2aa0fa6c021d3d"), looks := false }, kinds := [], alts := [], laidByText := true, laidKinds := [.data, .pinned], laidTests := true, laidLooks := .later }
def FnExactOwnedByUptoCardSaid : Prop := Claim7.holds Tryd.pinned (.plain (OpenSpec.upto fnExactOwnedBySpec)) fnExactOwnedByUptoCard
end Rows
end Go.Proofs.YteffcglgdfhkmaaDoor
