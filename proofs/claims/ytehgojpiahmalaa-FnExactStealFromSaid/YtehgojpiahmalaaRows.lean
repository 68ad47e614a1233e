/-
  No cell of these rows narrows 'for every input' (looked for: loops, veiled, ifaces, maps, wideKeys, modest, calm, conditions, laid).
  DERIVED. THE GIVEN ROWS OF THIS SEAT. 6 by the template 'for every input the law returns true; each argument reads behind the call as it read before'; 0 by the template 'total and deterministic' (their statements: YtehgojpiahmalaaTotals.lean).
  GIVEN WITH THE SEED: the statements are not yours to turn. If you find one false, say at which input.
  Laid BY PROGRAM, IN A SANDBOX (cutbox-rows.mjs): the forced cells as the released guide's own fill.sh prints them over the translation 5890dd90d8070b9a… (all of the seat's roots in one cut). By AI agents, Wed Nov 11 2026. No macro, syntax, notation, axiom, sorry.
-/
import Derived.Test.YtehgojpiahmalaaChecked
import GoSem.Claim
import GoSem.ClaimJoined
import GoSem.ClaimMapViews
import Derived.JoinedTies
import Derived.KernelRfl
namespace Go.Proofs.Ytehgojpiahmalaa
/- THE CELL 'sum', in the pinned program and in every row, IS THE sha256 OF THE DUMP (.gsa) THAT YtehgojpiahmalaaProg.lean LOADS. Nothing in Lean hashes anything: it is a label: what it is worth is what the hold of that sum in a sandbox is worth. -/
noncomputable def Try.pinned : Pinned := { name := "ytehgojpiahmalaa", sum := "5890dd90d8070b9a755d19329402e8018fdbd458fc9068a22e6a042b29cf4ebb", checked := Try.checked }
namespace Rows
def none {H : Type} : Left H := { results := [], args := [] }

/-- 'laws.FnExactGoodDecks': WHATEVER THE INPUT: true; the input reads as it did. -/
def fnExactGoodDecksSpec : ChangeSpec := { name := "fnExactGoodDecks", fn := fun _ => fun
  | [d] => { results := [.lit (.bool true)], args := [d] }
  | _ => none }
def fnExactGoodDecksRow : OpenClaim := { program := "ytehgojpiahmalaa", sum := "5890dd90d8070b9a755d19329402e8018fdbd458fc9068a22e6a042b29cf4ebb", func := "loop.example/g00756/laws.FnExactGoodDecks", spec := "fnExactGoodDecks", apart := false }
def FnExactGoodDecksSaid : Prop := fnExactGoodDecksRow.holds Try.pinned (OpenSpec.ofChange fnExactGoodDecksSpec)

/-- ITS FALSE NEIGHBOUR: 'it returns false'. Refute it at one input. -/
def fnExactGoodDecksWrong : ChangeSpec := { name := "fnExactGoodDecks", fn := fun _ => fun
  | [d] => { results := [.lit (.bool false)], args := [d] }
  | _ => none }
def FnExactGoodDecksWrongFalsely : Prop := fnExactGoodDecksRow.holds Try.pinned (OpenSpec.ofChange fnExactGoodDecksWrong)

/-- 'laws.FnExactVictimOf': WHATEVER THE INPUT: true; the input reads as it did. -/
def fnExactVictimOfSpec : ChangeSpec := { name := "fnExactVictimOf", fn := fun _ => fun
  | [d1, d2, d3] => { results := [.lit (.bool true)], args := [d1, d2, d3] }
  | _ => none }
def fnExactVictimOfRow : OpenClaim := { program := "ytehgojpiahmalaa", sum := "5890dd90d8070b9a755d19329402e8018fdbd458fc9068a22e6a042b29cf4ebb", func := "loop.example/g00756/laws.FnExactVictimOf", spec := "fnExactVictimOf", apart := false }
def FnExactVictimOfSaid : Prop := fnExactVictimOfRow.holds Try.pinned (OpenSpec.ofChange fnExactVictimOfSpec)

/-- ITS FALSE NEIGHBOUR: 'it returns false'. Refute it at one input. -/
def fnExactVictimOfWrong : ChangeSpec := { name := "fnExactVictimOf", fn := fun _ => fun
  | [d1, d2, d3] => { results := [.lit (.bool false)], args := [d1, d2, d3] }
  | _ => none }
def FnExactVictimOfWrongFalsely : Prop := fnExactVictimOfRow.holds Try.pinned (OpenSpec.ofChange fnExactVictimOfWrong)

/-- 'laws.FnExactStealFrom': WHATEVER THE INPUT: true; the input reads as it did. -/
def fnExactStealFromSpec : ChangeSpec := { name := "fnExactStealFrom", fn := fun _ => fun
  | [d1, d2] => { results := [.lit (.bool true)], args := [d1, d2] }
  | _ => none }
def fnExactStealFromRow : OpenClaim := { program := "ytehgojpiahmalaa", sum := "5890dd90d8070b9a755d19329402e8018fdbd458fc9068a22e6a042b29cf4ebb", func := "loop.example/g00756/laws.FnExactStealFrom", spec := "fnExactStealFrom", apart := false }
def FnExactStealFromSaid : Prop := fnExactStealFromRow.holds Try.pinned (OpenSpec.ofChange fnExactStealFromSpec)

/-- ITS FALSE NEIGHBOUR: 'it returns false'. Refute it at one input. -/
def fnExactStealFromWrong : ChangeSpec := { name := "fnExactStealFrom", fn := fun _ => fun
  | [d1, d2] => { results := [.lit (.bool false)], args := [d1, d2] }
  | _ => none }
def FnExactStealFromWrongFalsely : Prop := fnExactStealFromRow.holds Try.pinned (OpenSpec.ofChange fnExactStealFromWrong)

/-- 'laws.FnExactNewFs': WHATEVER THE INPUT: true; the input reads as it did. -/
def fnExactNewFsSpec : ChangeSpec := { name := "fnExactNewFs", fn := fun _ => fun
  | [d] => { results := [.lit (.bool true)], args := [d] }
  | _ => none }
def fnExactNewFsRow : OpenClaim := { program := "ytehgojpiahmalaa", sum := "5890dd90d8070b9a755d19329402e8018fdbd458fc9068a22e6a042b29cf4ebb", func := "loop.example/g00756/laws.FnExactNewFs", spec := "fnExactNewFs", apart := false }
def FnExactNewFsSaid : Prop := fnExactNewFsRow.holds Try.pinned (OpenSpec.ofChange fnExactNewFsSpec)

/-- ITS FALSE NEIGHBOUR: 'it returns false'. Refute it at one input. -/
def fnExactNewFsWrong : ChangeSpec := { name := "fnExactNewFs", fn := fun _ => fun
  | [d] => { results := [.lit (.bool false)], args := [d] }
  | _ => none }
def FnExactNewFsWrongFalsely : Prop := fnExactNewFsRow.holds Try.pinned (OpenSpec.ofChange fnExactNewFsWrong)

/-- 'laws.FnExactSameFs': WHATEVER THE INPUT: true; the input reads as it did. -/
def fnExactSameFsSpec : ChangeSpec := { name := "fnExactSameFs", fn := fun _ => fun
  | [d1, d2] => { results := [.lit (.bool true)], args := [d1, d2] }
  | _ => none }
def fnExactSameFsRow : OpenClaim := { program := "ytehgojpiahmalaa", sum := "5890dd90d8070b9a755d19329402e8018fdbd458fc9068a22e6a042b29cf4ebb", func := "loop.example/g00756/laws.FnExactSameFs", spec := "fnExactSameFs", unfollowed := true, recurses := true, apart := false }
def FnExactSameFsSaid : Prop := fnExactSameFsRow.holds Try.pinned (OpenSpec.ofChange fnExactSameFsSpec)

/-- ITS FALSE NEIGHBOUR: 'it returns false'. Refute it at one input. -/
def fnExactSameFsWrong : ChangeSpec := { name := "fnExactSameFs", fn := fun _ => fun
  | [d1, d2] => { results := [.lit (.bool false)], args := [d1, d2] }
  | _ => none }
def FnExactSameFsWrongFalsely : Prop := fnExactSameFsRow.holds Try.pinned (OpenSpec.ofChange fnExactSameFsWrong)

/-- 'laws.FnExactSortFaults': WHATEVER THE INPUT: true; the input reads as it did. -/
def fnExactSortFaultsSpec : ChangeSpec := { name := "fnExactSortFaults", fn := fun _ => fun
  | [d] => { results := [.lit (.bool true)], args := [d] }
  | _ => none }
def fnExactSortFaultsRow : OpenClaim := { program := "ytehgojpiahmalaa", sum := "5890dd90d8070b9a755d19329402e8018fdbd458fc9068a22e6a042b29cf4ebb", func := "loop.example/g00756/laws.FnExactSortFaults", spec := "fnExactSortFaults", unfollowed := true, recurses := true, apart := false }
def FnExactSortFaultsSaid : Prop := fnExactSortFaultsRow.holds Try.pinned (OpenSpec.ofChange fnExactSortFaultsSpec)

/-- ITS FALSE NEIGHBOUR: 'it returns false'. Refute it at one input. -/
def fnExactSortFaultsWrong : ChangeSpec := { name := "fnExactSortFaults", fn := fun _ => fun
  | [d] => { results := [.lit (.bool false)], args := [d] }
  | _ => none }
def FnExactSortFaultsWrongFalsely : Prop := fnExactSortFaultsRow.holds Try.pinned (OpenSpec.ofChange fnExactSortFaultsWrong)

/- THE SECOND FORM. 'bulk': how many values and letters a reading holds, each counted each time it is reached (what is shared counts as often as it is met; a slice's spare places count too). A statement '..UptoSaid' is the law's where the arguments, and the package variables that the reading takes, are together of bulk at most 1048576: NARROWER than '..Said'. Prove '..Said' where nothing that the law and all that it calls make is longer than what came in: it says more and counts as full. Else prove '..UptoSaid'. A law counts once. -/
mutual
def uptoBulk {H : Type} : DataW H → Nat
  | .lit (.string bytes) => bytes.length + 1
  | .lit _ => 1
  | .nil => 1
  | .ptr d => uptoBulk d + 1
  | .slice elems spare => uptoBulkAll elems + uptoBulkAll spare + 1
  | .agg parts => uptoBulkAll parts + 1
  | .iface _ d => uptoBulk d + 1
  | .map entries => uptoBulkEntries entries + 1
  | .held _ => 1
def uptoBulkAll {H : Type} : List (DataW H) → Nat
  | [] => 0
  | d :: r => uptoBulk d + uptoBulkAll r
def uptoBulkEntries {H : Type} : List (Lit × DataW H) → Nat
  | [] => 0
  | x :: r => uptoBulkEntry x + uptoBulkEntries r
def uptoBulkEntry {H : Type} : Lit × DataW H → Nat
  | (.string bytes, d) => bytes.length + uptoBulk d + 1
  | (_, d) => uptoBulk d + 1
 end
def uptoSmall : (H : Type) → List (DataW H) → Bool := fun _ ds => decide (uptoBulkAll ds ≤ 1048576)
def OpenSpec.upto (s : _root_.Go.ChangeSpec) : _root_.Go.OpenSpec := { _root_.Go.OpenSpec.ofChange s with cond := some uptoSmall }

/-- 'laws.FnExactGoodDecks', WHERE WHAT IT READS IS OF BULK AT MOST 1048576: true; the input reads as it did. -/
def fnExactGoodDecksUptoRow : OpenClaim := { program := "ytehgojpiahmalaa", sum := "5890dd90d8070b9a755d19329402e8018fdbd458fc9068a22e6a042b29cf4ebb", func := "loop.example/g00756/laws.FnExactGoodDecks", spec := "fnExactGoodDecks", apart := false, narrowed := true }
def FnExactGoodDecksUptoSaid : Prop := fnExactGoodDecksUptoRow.holds Try.pinned (OpenSpec.upto fnExactGoodDecksSpec)

/-- 'laws.FnExactVictimOf', WHERE WHAT IT READS IS OF BULK AT MOST 1048576: true; the input reads as it did. -/
def fnExactVictimOfUptoRow : OpenClaim := { program := "ytehgojpiahmalaa", sum := "5890dd90d8070b9a755d19329402e8018fdbd458fc9068a22e6a042b29cf4ebb", func := "loop.example/g00756/laws.FnExactVictimOf", spec := "fnExactVictimOf", apart := false, narrowed := true }
def FnExactVictimOfUptoSaid : Prop := fnExactVictimOfUptoRow.holds Try.pinned (OpenSpec.upto fnExactVictimOfSpec)

/-- 'laws.FnExactStealFrom', WHERE WHAT IT READS IS OF BULK AT MOST 1048576: true; the input reads as it did. -/
def fnExactStealFromUptoRow : OpenClaim := { program := "ytehgojpiahmalaa", sum := "5890dd90d8070b9a755d19329402e8018fdbd458fc9068a22e6a042b29cf4ebb", func := "loop.example/g00756/laws.FnExactStealFrom", spec := "fnExactStealFrom", apart := false, narrowed := true }
def FnExactStealFromUptoSaid : Prop := fnExactStealFromUptoRow.holds Try.pinned (OpenSpec.upto fnExactStealFromSpec)

/-- 'laws.FnExactNewFs', WHERE WHAT IT READS IS OF BULK AT MOST 1048576: true; the input reads as it did. -/
def fnExactNewFsUptoRow : OpenClaim := { program := "ytehgojpiahmalaa", sum := "5890dd90d8070b9a755d19329402e8018fdbd458fc9068a22e6a042b29cf4ebb", func := "loop.example/g00756/laws.FnExactNewFs", spec := "fnExactNewFs", apart := false, narrowed := true }
def FnExactNewFsUptoSaid : Prop := fnExactNewFsUptoRow.holds Try.pinned (OpenSpec.upto fnExactNewFsSpec)

/-- 'laws.FnExactSameFs', WHERE WHAT IT READS IS OF BULK AT MOST 1048576: true; the input reads as it did. -/
def fnExactSameFsUptoRow : OpenClaim := { program := "ytehgojpiahmalaa", sum := "5890dd90d8070b9a755d19329402e8018fdbd458fc9068a22e6a042b29cf4ebb", func := "loop.example/g00756/laws.FnExactSameFs", spec := "fnExactSameFs", unfollowed := true, recurses := true, apart := false, narrowed := true }
def FnExactSameFsUptoSaid : Prop := fnExactSameFsUptoRow.holds Try.pinned (OpenSpec.upto fnExactSameFsSpec)

/-- 'laws.FnExactSortFaults', WHERE WHAT IT READS IS OF BULK AT MOST 1048576: true; the input reads as it did. -/
def fnExactSortFaultsUptoRow : OpenClaim := { program := "ytehgojpiahmalaa", sum := "5890dd90d8070b9a755d19329402e8018fdbd458fc9068a22e6a042b29cf4ebb", func := "loop.example/g00756/laws.FnExactSortFaults", spec := "fnExactSortFaults", unfollowed := true, recurses := true, apart := false, narrowed := true }
def FnExactSortFaultsUptoSaid : Prop := fnExactSortFaultsUptoRow.holds Try.pinned (OpenSpec.upto fnExactSortFaultsSpec)

end Rows
end Go.Proofs.Ytehgojpiahmalaa
