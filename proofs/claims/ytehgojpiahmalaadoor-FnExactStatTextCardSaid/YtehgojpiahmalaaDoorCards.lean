/-
  DERIVED. GIVEN WITH THE SEED: THE CARDS: each row of YtehgojpiahmalaaDoorRows.lean that lists a variable, with what it lists TIED to the program's text (the seventh form; the later family's looks); each row that meets fmt, with fmt's text TOLD by the authors' own Lean function (tested against real Go, not proved from fmt's source: count such statements apart). THE CARD IS WHAT COUNTS. Prove the row's statement (the work); the ties are given (YtehgojpiahmalaaDoorTie.lean); close each card by the builder's one call (the guide's Derived/Test/ToyasCard.lean, 'card_holds'). Laid BY PROGRAM, IN A SANDBOX (cutbox-door.mjs). By AI agents, Wed Nov 11 2026. No macro, syntax, notation, axiom, sorry.
-/
import Derived.Test.YtehgojpiahmalaaDoorRows
import GoSem.ClaimSeven
namespace Go.Proofs.YtehgojpiahmalaaDoor
namespace Rows

/-- THE TIED CARD OF 'laws.FnExactStatText'. -/
def fnExactStatTextCard : Claim7 := { stood := { row := fnExactStatTextRow, standIns := [], harness := (true, "f1ec2ec9712a26564c9c58db54b04b662637f66261d4051b2506e4de9b9638f0"), looks := false }, kinds := [], alts := [], laidByText := true, laidKinds := [.data, .data, .data], laidTests := true, laidLooks := .later }
def FnExactStatTextCardSaid : Prop := Claim7.holds Tryd.pinned (.plain (OpenSpec.ofChange fnExactStatTextSpec)) fnExactStatTextCard

/-- THE SECOND FORM's CARD OF 'laws.FnExactStatText'. -/
def fnExactStatTextUptoCard : Claim7 := { stood := { row := fnExactStatTextUptoRow, standIns := [], harness := (true, "f1ec2ec9712a26564c9c58db54b04b662637f66261d4051b2506e4de9b9638f0"), looks := false }, kinds := [], alts := [], laidByText := true, laidKinds := [.data, .data, .data], laidTests := true, laidLooks := .later }
def FnExactStatTextUptoCardSaid : Prop := Claim7.holds Tryd.pinned (.plain (OpenSpec.upto fnExactStatTextSpec)) fnExactStatTextUptoCard
end Rows
end Go.Proofs.YtehgojpiahmalaaDoor
