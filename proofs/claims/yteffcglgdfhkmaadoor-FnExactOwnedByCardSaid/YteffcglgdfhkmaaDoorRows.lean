/-
  NARROWER THAN 'FOR EVERY INPUT', by the rows' own cells (each row's printed sentence says how): FnExactGoodFs: laid · FnExactBytesIn: laid · FnExactLinksOf: laid · FnExactFreeNode: laid · FnExactParentOf: laid · FnExactPathTo: laid · FnExactDeepOf: laid · FnExactWalkPost: laid · FnExactWalkPre: laid · FnExactOwnedBy: laid.
  DERIVED. THE GIVEN ROWS OF THIS SEAT. 10 by the template 'for every input the law returns true; each argument reads behind the call as it read before'; 0 by the template 'total and deterministic' (their statements: YteffcglgdfhkmaaDoorTotals.lean).
  GIVEN WITH THE SEED: the statements are not yours to turn. If you find one false, say at which input.
  Laid BY PROGRAM, IN A SANDBOX (cutbox-rows.mjs): the forced cells as the released guide's own fill.sh prints them over the translation a248a16d6e826b70… (all of the seat's roots in one cut). By AI agents, Wed Nov 11 2026. No macro, syntax, notation, axiom, sorry.
-/
import Derived.Test.YteffcglgdfhkmaaDoorChecked
import GoSem.PinnedTables
import GoSem.Claim
import GoSem.ClaimJoined
import GoSem.ClaimMapViews
import Derived.JoinedTies
import Derived.KernelRfl
namespace Go.Proofs.YteffcglgdfhkmaaDoor
/- THE CELL 'sum', in the pinned program and in every row, IS THE sha256 OF THE DUMP (.gsa) THAT YteffcglgdfhkmaaDoorProg.lean LOADS. Nothing in Lean hashes anything: it is a label: what it is worth is what the hold of that sum in a sandbox is worth. -/
noncomputable def Tryd.pinned : Pinned := { name := "yteffcglgdfhkmaadoor", sum := "a248a16d6e826b700dc5313d919a79080bbb0872f06065eff33bb03d42ecfd54", checked := Tryd.checked }
namespace Rows
def none {H : Type} : Left H := { results := [], args := [] }

/- WHAT THE LISTED PACKAGE-LEVEL VARIABLES READ AS WHEN THE CALL BEGINS. Each datum BY PROGRAM (the guide's laid-datum.mjs) off the statement by which the dump's own 'gosem.cut.vars' lays the variable. In a bare row this is a premise. The card (YteffcglgdfhkmaaDoorCards.lean) ties it to the program's text. -/
def laid_unicode_utf8_acceptRanges {H : Type} : DataW H := .agg [.agg [.lit (.int .u8 128), .lit (.int .u8 191)], .agg [.lit (.int .u8 160), .lit (.int .u8 191)], .agg [.lit (.int .u8 128), .lit (.int .u8 159)], .agg [.lit (.int .u8 144), .lit (.int .u8 191)], .agg [.lit (.int .u8 128), .lit (.int .u8 143)], .agg [.lit (.int .u8 0), .lit (.int .u8 0)], .agg [.lit (.int .u8 0), .lit (.int .u8 0)], .agg [.lit (.int .u8 0), .lit (.int .u8 0)], .agg [.lit (.int .u8 0), .lit (.int .u8 0)], .agg [.lit (.int .u8 0), .lit (.int .u8 0)], .agg [.lit (.int .u8 0), .lit (.int .u8 0)], .agg [.lit (.int .u8 0), .lit (.int .u8 0)], .agg [.lit (.int .u8 0), .lit (.int .u8 0)], .agg [.lit (.int .u8 0), .lit (.int .u8 0)], .agg [.lit (.int .u8 0), .lit (.int .u8 0)], .agg [.lit (.int .u8 0), .lit (.int .u8 0)]]
/-- One of Go's own tables, pinned by name: the form's constant. -/
def laid_unicode_utf8_first : DataW Unit := Go.Pinned.utf8First

/-- 'laws.FnExactGoodFs': WHATEVER THE INPUT: true; the input reads as it did. -/
def fnExactGoodFsSpec : ChangeSpec := { name := "fnExactGoodFs", fn := fun _ => fun
  | [d] => { results := [.lit (.bool true)], args := [d] }
  | _ => none }
def fnExactGoodFsRow : OpenClaim := { program := "yteffcglgdfhkmaadoor", sum := "a248a16d6e826b700dc5313d919a79080bbb0872f06065eff33bb03d42ecfd54", func := "loop.example/g00756/laws.FnExactGoodFs", spec := "fnExactGoodFs", inPlace := ["internal/bytealg.CountString", "internal/bytealg.IndexByteString", "internal/bytealg.IndexString"], unfollowed := true, recurses := true, named := ["unicode/utf8.first", "unicode/utf8.acceptRanges", "internal/bytealg.MaxLen"], apart := false, laid := [("unicode/utf8.acceptRanges", laid_unicode_utf8_acceptRanges), ("unicode/utf8.first", laid_unicode_utf8_first)] }
def FnExactGoodFsSaid : Prop := fnExactGoodFsRow.holds Tryd.pinned (OpenSpec.ofChange fnExactGoodFsSpec)

/-- ITS FALSE NEIGHBOUR: 'it returns false'. Refute it at one input. -/
def fnExactGoodFsWrong : ChangeSpec := { name := "fnExactGoodFs", fn := fun _ => fun
  | [d] => { results := [.lit (.bool false)], args := [d] }
  | _ => none }
def FnExactGoodFsWrongFalsely : Prop := fnExactGoodFsRow.holds Tryd.pinned (OpenSpec.ofChange fnExactGoodFsWrong)

/-- 'laws.FnExactBytesIn': WHATEVER THE INPUT: true; the input reads as it did. -/
def fnExactBytesInSpec : ChangeSpec := { name := "fnExactBytesIn", fn := fun _ => fun
  | [d] => { results := [.lit (.bool true)], args := [d] }
  | _ => none }
def fnExactBytesInRow : OpenClaim := { program := "yteffcglgdfhkmaadoor", sum := "a248a16d6e826b700dc5313d919a79080bbb0872f06065eff33bb03d42ecfd54", func := "loop.example/g00756/laws.FnExactBytesIn", spec := "fnExactBytesIn", inPlace := ["internal/bytealg.CountString", "internal/bytealg.IndexByteString", "internal/bytealg.IndexString"], unfollowed := true, recurses := true, named := ["unicode/utf8.first", "unicode/utf8.acceptRanges", "internal/bytealg.MaxLen"], apart := false, laid := [("unicode/utf8.acceptRanges", laid_unicode_utf8_acceptRanges), ("unicode/utf8.first", laid_unicode_utf8_first)] }
def FnExactBytesInSaid : Prop := fnExactBytesInRow.holds Tryd.pinned (OpenSpec.ofChange fnExactBytesInSpec)

/-- ITS FALSE NEIGHBOUR: 'it returns false'. Refute it at one input. -/
def fnExactBytesInWrong : ChangeSpec := { name := "fnExactBytesIn", fn := fun _ => fun
  | [d] => { results := [.lit (.bool false)], args := [d] }
  | _ => none }
def FnExactBytesInWrongFalsely : Prop := fnExactBytesInRow.holds Tryd.pinned (OpenSpec.ofChange fnExactBytesInWrong)

/-- 'laws.FnExactLinksOf': WHATEVER THE INPUT: true; the input reads as it did. -/
def fnExactLinksOfSpec : ChangeSpec := { name := "fnExactLinksOf", fn := fun _ => fun
  | [d1, d2] => { results := [.lit (.bool true)], args := [d1, d2] }
  | _ => none }
def fnExactLinksOfRow : OpenClaim := { program := "yteffcglgdfhkmaadoor", sum := "a248a16d6e826b700dc5313d919a79080bbb0872f06065eff33bb03d42ecfd54", func := "loop.example/g00756/laws.FnExactLinksOf", spec := "fnExactLinksOf", inPlace := ["internal/bytealg.CountString", "internal/bytealg.IndexByteString", "internal/bytealg.IndexString"], unfollowed := true, recurses := true, named := ["unicode/utf8.first", "unicode/utf8.acceptRanges", "internal/bytealg.MaxLen"], apart := false, laid := [("unicode/utf8.acceptRanges", laid_unicode_utf8_acceptRanges), ("unicode/utf8.first", laid_unicode_utf8_first)] }
def FnExactLinksOfSaid : Prop := fnExactLinksOfRow.holds Tryd.pinned (OpenSpec.ofChange fnExactLinksOfSpec)

/-- ITS FALSE NEIGHBOUR: 'it returns false'. Refute it at one input. -/
def fnExactLinksOfWrong : ChangeSpec := { name := "fnExactLinksOf", fn := fun _ => fun
  | [d1, d2] => { results := [.lit (.bool false)], args := [d1, d2] }
  | _ => none }
def FnExactLinksOfWrongFalsely : Prop := fnExactLinksOfRow.holds Tryd.pinned (OpenSpec.ofChange fnExactLinksOfWrong)

/-- 'laws.FnExactFreeNode': WHATEVER THE INPUT: true; the input reads as it did. -/
def fnExactFreeNodeSpec : ChangeSpec := { name := "fnExactFreeNode", fn := fun _ => fun
  | [d] => { results := [.lit (.bool true)], args := [d] }
  | _ => none }
def fnExactFreeNodeRow : OpenClaim := { program := "yteffcglgdfhkmaadoor", sum := "a248a16d6e826b700dc5313d919a79080bbb0872f06065eff33bb03d42ecfd54", func := "loop.example/g00756/laws.FnExactFreeNode", spec := "fnExactFreeNode", inPlace := ["internal/bytealg.CountString", "internal/bytealg.IndexByteString", "internal/bytealg.IndexString"], unfollowed := true, recurses := true, named := ["unicode/utf8.first", "unicode/utf8.acceptRanges", "internal/bytealg.MaxLen"], apart := false, laid := [("unicode/utf8.acceptRanges", laid_unicode_utf8_acceptRanges), ("unicode/utf8.first", laid_unicode_utf8_first)] }
def FnExactFreeNodeSaid : Prop := fnExactFreeNodeRow.holds Tryd.pinned (OpenSpec.ofChange fnExactFreeNodeSpec)

/-- ITS FALSE NEIGHBOUR: 'it returns false'. Refute it at one input. -/
def fnExactFreeNodeWrong : ChangeSpec := { name := "fnExactFreeNode", fn := fun _ => fun
  | [d] => { results := [.lit (.bool false)], args := [d] }
  | _ => none }
def FnExactFreeNodeWrongFalsely : Prop := fnExactFreeNodeRow.holds Tryd.pinned (OpenSpec.ofChange fnExactFreeNodeWrong)

/-- 'laws.FnExactParentOf': WHATEVER THE INPUT: true; the input reads as it did. -/
def fnExactParentOfSpec : ChangeSpec := { name := "fnExactParentOf", fn := fun _ => fun
  | [d1, d2] => { results := [.lit (.bool true)], args := [d1, d2] }
  | _ => none }
def fnExactParentOfRow : OpenClaim := { program := "yteffcglgdfhkmaadoor", sum := "a248a16d6e826b700dc5313d919a79080bbb0872f06065eff33bb03d42ecfd54", func := "loop.example/g00756/laws.FnExactParentOf", spec := "fnExactParentOf", inPlace := ["internal/bytealg.CountString", "internal/bytealg.IndexByteString", "internal/bytealg.IndexString"], unfollowed := true, recurses := true, named := ["unicode/utf8.first", "unicode/utf8.acceptRanges", "internal/bytealg.MaxLen"], apart := false, laid := [("unicode/utf8.acceptRanges", laid_unicode_utf8_acceptRanges), ("unicode/utf8.first", laid_unicode_utf8_first)] }
def FnExactParentOfSaid : Prop := fnExactParentOfRow.holds Tryd.pinned (OpenSpec.ofChange fnExactParentOfSpec)

/-- ITS FALSE NEIGHBOUR: 'it returns false'. Refute it at one input. -/
def fnExactParentOfWrong : ChangeSpec := { name := "fnExactParentOf", fn := fun _ => fun
  | [d1, d2] => { results := [.lit (.bool false)], args := [d1, d2] }
  | _ => none }
def FnExactParentOfWrongFalsely : Prop := fnExactParentOfRow.holds Tryd.pinned (OpenSpec.ofChange fnExactParentOfWrong)

/-- 'laws.FnExactPathTo': WHATEVER THE INPUT: true; the input reads as it did. -/
def fnExactPathToSpec : ChangeSpec := { name := "fnExactPathTo", fn := fun _ => fun
  | [d1, d2] => { results := [.lit (.bool true)], args := [d1, d2] }
  | _ => none }
def fnExactPathToRow : OpenClaim := { program := "yteffcglgdfhkmaadoor", sum := "a248a16d6e826b700dc5313d919a79080bbb0872f06065eff33bb03d42ecfd54", func := "loop.example/g00756/laws.FnExactPathTo", spec := "fnExactPathTo", inPlace := ["internal/bytealg.CountString", "internal/bytealg.IndexByteString", "internal/bytealg.IndexString", "internal/abi.NoEscape", "internal/bytealg.MakeNoZero"], unfollowed := true, recurses := true, named := ["unicode/utf8.first", "unicode/utf8.acceptRanges", "internal/bytealg.MaxLen"], apart := false, laid := [("unicode/utf8.acceptRanges", laid_unicode_utf8_acceptRanges), ("unicode/utf8.first", laid_unicode_utf8_first)] }
def FnExactPathToSaid : Prop := fnExactPathToRow.holds Tryd.pinned (OpenSpec.ofChange fnExactPathToSpec)

/-- ITS FALSE NEIGHBOUR: 'it returns false'. Refute it at one input. -/
def fnExactPathToWrong : ChangeSpec := { name := "fnExactPathTo", fn := fun _ => fun
  | [d1, d2] => { results := [.lit (.bool false)], args := [d1, d2] }
  | _ => none }
def FnExactPathToWrongFalsely : Prop := fnExactPathToRow.holds Tryd.pinned (OpenSpec.ofChange fnExactPathToWrong)

/-- 'laws.FnExactDeepOf': WHATEVER THE INPUT: true; the input reads as it did. -/
def fnExactDeepOfSpec : ChangeSpec := { name := "fnExactDeepOf", fn := fun _ => fun
  | [d1, d2] => { results := [.lit (.bool true)], args := [d1, d2] }
  | _ => none }
def fnExactDeepOfRow : OpenClaim := { program := "yteffcglgdfhkmaadoor", sum := "a248a16d6e826b700dc5313d919a79080bbb0872f06065eff33bb03d42ecfd54", func := "loop.example/g00756/laws.FnExactDeepOf", spec := "fnExactDeepOf", inPlace := ["internal/bytealg.CountString", "internal/bytealg.IndexByteString", "internal/bytealg.IndexString"], unfollowed := true, recurses := true, named := ["unicode/utf8.first", "unicode/utf8.acceptRanges", "internal/bytealg.MaxLen"], apart := false, laid := [("unicode/utf8.acceptRanges", laid_unicode_utf8_acceptRanges), ("unicode/utf8.first", laid_unicode_utf8_first)] }
def FnExactDeepOfSaid : Prop := fnExactDeepOfRow.holds Tryd.pinned (OpenSpec.ofChange fnExactDeepOfSpec)

/-- ITS FALSE NEIGHBOUR: 'it returns false'. Refute it at one input. -/
def fnExactDeepOfWrong : ChangeSpec := { name := "fnExactDeepOf", fn := fun _ => fun
  | [d1, d2] => { results := [.lit (.bool false)], args := [d1, d2] }
  | _ => none }
def FnExactDeepOfWrongFalsely : Prop := fnExactDeepOfRow.holds Tryd.pinned (OpenSpec.ofChange fnExactDeepOfWrong)

/-- 'laws.FnExactWalkPost': WHATEVER THE INPUT: true; the input reads as it did. -/
def fnExactWalkPostSpec : ChangeSpec := { name := "fnExactWalkPost", fn := fun _ => fun
  | [d1, d2] => { results := [.lit (.bool true)], args := [d1, d2] }
  | _ => none }
def fnExactWalkPostRow : OpenClaim := { program := "yteffcglgdfhkmaadoor", sum := "a248a16d6e826b700dc5313d919a79080bbb0872f06065eff33bb03d42ecfd54", func := "loop.example/g00756/laws.FnExactWalkPost", spec := "fnExactWalkPost", inPlace := ["internal/bytealg.CountString", "internal/bytealg.IndexByteString", "internal/bytealg.IndexString"], unfollowed := true, recurses := true, named := ["unicode/utf8.first", "unicode/utf8.acceptRanges", "internal/bytealg.MaxLen"], apart := false, laid := [("unicode/utf8.acceptRanges", laid_unicode_utf8_acceptRanges), ("unicode/utf8.first", laid_unicode_utf8_first)] }
def FnExactWalkPostSaid : Prop := fnExactWalkPostRow.holds Tryd.pinned (OpenSpec.ofChange fnExactWalkPostSpec)

/-- ITS FALSE NEIGHBOUR: 'it returns false'. Refute it at one input. -/
def fnExactWalkPostWrong : ChangeSpec := { name := "fnExactWalkPost", fn := fun _ => fun
  | [d1, d2] => { results := [.lit (.bool false)], args := [d1, d2] }
  | _ => none }
def FnExactWalkPostWrongFalsely : Prop := fnExactWalkPostRow.holds Tryd.pinned (OpenSpec.ofChange fnExactWalkPostWrong)

/-- 'laws.FnExactWalkPre': WHATEVER THE INPUT: true; the input reads as it did. -/
def fnExactWalkPreSpec : ChangeSpec := { name := "fnExactWalkPre", fn := fun _ => fun
  | [d1, d2] => { results := [.lit (.bool true)], args := [d1, d2] }
  | _ => none }
def fnExactWalkPreRow : OpenClaim := { program := "yteffcglgdfhkmaadoor", sum := "a248a16d6e826b700dc5313d919a79080bbb0872f06065eff33bb03d42ecfd54", func := "loop.example/g00756/laws.FnExactWalkPre", spec := "fnExactWalkPre", inPlace := ["internal/bytealg.CountString", "internal/bytealg.IndexByteString", "internal/bytealg.IndexString"], unfollowed := true, recurses := true, named := ["unicode/utf8.first", "unicode/utf8.acceptRanges", "internal/bytealg.MaxLen"], apart := false, laid := [("unicode/utf8.acceptRanges", laid_unicode_utf8_acceptRanges), ("unicode/utf8.first", laid_unicode_utf8_first)] }
def FnExactWalkPreSaid : Prop := fnExactWalkPreRow.holds Tryd.pinned (OpenSpec.ofChange fnExactWalkPreSpec)

/-- ITS FALSE NEIGHBOUR: 'it returns false'. Refute it at one input. -/
def fnExactWalkPreWrong : ChangeSpec := { name := "fnExactWalkPre", fn := fun _ => fun
  | [d1, d2] => { results := [.lit (.bool false)], args := [d1, d2] }
  | _ => none }
def FnExactWalkPreWrongFalsely : Prop := fnExactWalkPreRow.holds Tryd.pinned (OpenSpec.ofChange fnExactWalkPreWrong)

/-- 'laws.FnExactOwnedBy': WHATEVER THE INPUT: true; the input reads as it did. -/
def fnExactOwnedBySpec : ChangeSpec := { name := "fnExactOwnedBy", fn := fun _ => fun
  | [d1, d2, d3] => { results := [.lit (.bool true)], args := [d1, d2, d3] }
  | _ => none }
def fnExactOwnedByRow : OpenClaim := { program := "yteffcglgdfhkmaadoor", sum := "a248a16d6e826b700dc5313d919a79080bbb0872f06065eff33bb03d42ecfd54", func := "loop.example/g00756/laws.FnExactOwnedBy", spec := "fnExactOwnedBy", inPlace := ["internal/bytealg.CountString", "internal/bytealg.IndexByteString", "internal/bytealg.IndexString"], unfollowed := true, recurses := true, named := ["unicode/utf8.first", "unicode/utf8.acceptRanges", "internal/bytealg.MaxLen"], apart := false, laid := [("unicode/utf8.acceptRanges", laid_unicode_utf8_acceptRanges), ("unicode/utf8.first", laid_unicode_utf8_first)] }
def FnExactOwnedBySaid : Prop := fnExactOwnedByRow.holds Tryd.pinned (OpenSpec.ofChange fnExactOwnedBySpec)

/-- ITS FALSE NEIGHBOUR: 'it returns false'. Refute it at one input. -/
def fnExactOwnedByWrong : ChangeSpec := { name := "fnExactOwnedBy", fn := fun _ => fun
  | [d1, d2, d3] => { results := [.lit (.bool false)], args := [d1, d2, d3] }
  | _ => none }
def FnExactOwnedByWrongFalsely : Prop := fnExactOwnedByRow.holds Tryd.pinned (OpenSpec.ofChange fnExactOwnedByWrong)

/- THE SECOND FORM. 'bulk': how many values and letters a reading holds, each counted each time it is reached (what is shared counts as often as it is met; a slice's spare places count too). A statement '..UptoSaid' is the law's where the arguments, and the package variables that the reading takes, are together of bulk at most 1048576: NARROWER than '..Said'. Prove '..Said' where nothing that the law and all that it calls make is longer than what came in: it says more and counts as full. Else prove '..UptoSaid'. A law counts once. -/
mutual
def uptoBulk {H : Type} : DataW H → Nat
  | .lit (.string bytes) => bytes.length + 1
  | .lit _ => 1
  | .nil => 1
  | .ptr d => uptoBulk d + 1
  | .slice elems spare => uptoBulkAll elems + uptoBulkAll spare + 1
  | .agg parts => uptoBulkAll parts + 1
  | .iface _ d => uptoBulk d + 1
  | .map entries => uptoBulkEntries entries + 1
  | .held _ => 1
def uptoBulkAll {H : Type} : List (DataW H) → Nat
  | [] => 0
  | d :: r => uptoBulk d + uptoBulkAll r
def uptoBulkEntries {H : Type} : List (Lit × DataW H) → Nat
  | [] => 0
  | x :: r => uptoBulkEntry x + uptoBulkEntries r
def uptoBulkEntry {H : Type} : Lit × DataW H → Nat
  | (.string bytes, d) => bytes.length + uptoBulk d + 1
  | (_, d) => uptoBulk d + 1
 end
def uptoSmall : (H : Type) → List (DataW H) → Bool := fun _ ds => decide (uptoBulkAll ds ≤ 1048576)
def OpenSpec.upto (s : _root_.Go.ChangeSpec) : _root_.Go.OpenSpec := { _root_.Go.OpenSpec.ofChange s with cond := some uptoSmall }

/-- 'laws.FnExactGoodFs', WHERE WHAT IT READS IS OF BULK AT MOST 1048576: true; the input reads as it did. -/
def fnExactGoodFsUptoRow : OpenClaim := { program := "yteffcglgdfhkmaadoor", sum := "a248a16d6e826b700dc5313d919a79080bbb0872f06065eff33bb03d42ecfd54", func := "loop.example/g00756/laws.FnExactGoodFs", spec := "fnExactGoodFs", inPlace := ["internal/bytealg.CountString", "internal/bytealg.IndexByteString", "internal/bytealg.IndexString"], unfollowed := true, recurses := true, named := ["unicode/utf8.first", "unicode/utf8.acceptRanges", "internal/bytealg.MaxLen"], apart := false, laid := [("unicode/utf8.acceptRanges", laid_unicode_utf8_acceptRanges), ("unicode/utf8.first", laid_unicode_utf8_first)], narrowed := true }
def FnExactGoodFsUptoSaid : Prop := fnExactGoodFsUptoRow.holds Tryd.pinned (OpenSpec.upto fnExactGoodFsSpec)

/-- 'laws.FnExactBytesIn', WHERE WHAT IT READS IS OF BULK AT MOST 1048576: true; the input reads as it did. -/
def fnExactBytesInUptoRow : OpenClaim := { program := "yteffcglgdfhkmaadoor", sum := "a248a16d6e826b700dc5313d919a79080bbb0872f06065eff33bb03d42ecfd54", func := "loop.example/g00756/laws.FnExactBytesIn", spec := "fnExactBytesIn", inPlace := ["internal/bytealg.CountString", "internal/bytealg.IndexByteString", "internal/bytealg.IndexString"], unfollowed := true, recurses := true, named := ["unicode/utf8.first", "unicode/utf8.acceptRanges", "internal/bytealg.MaxLen"], apart := false, laid := [("unicode/utf8.acceptRanges", laid_unicode_utf8_acceptRanges), ("unicode/utf8.first", laid_unicode_utf8_first)], narrowed := true }
def FnExactBytesInUptoSaid : Prop := fnExactBytesInUptoRow.holds Tryd.pinned (OpenSpec.upto fnExactBytesInSpec)

/-- 'laws.FnExactLinksOf', WHERE WHAT IT READS IS OF BULK AT MOST 1048576: true; the input reads as it did. -/
def fnExactLinksOfUptoRow : OpenClaim := { program := "yteffcglgdfhkmaadoor", sum := "a248a16d6e826b700dc5313d919a79080bbb0872f06065eff33bb03d42ecfd54", func := "loop.example/g00756/laws.FnExactLinksOf", spec := "fnExactLinksOf", inPlace := ["internal/bytealg.CountString", "internal/bytealg.IndexByteString", "internal/bytealg.IndexString"], unfollowed := true, recurses := true, named := ["unicode/utf8.first", "unicode/utf8.acceptRanges", "internal/bytealg.MaxLen"], apart := false, laid := [("unicode/utf8.acceptRanges", laid_unicode_utf8_acceptRanges), ("unicode/utf8.first", laid_unicode_utf8_first)], narrowed := true }
def FnExactLinksOfUptoSaid : Prop := fnExactLinksOfUptoRow.holds Tryd.pinned (OpenSpec.upto fnExactLinksOfSpec)

/-- 'laws.FnExactFreeNode', WHERE WHAT IT READS IS OF BULK AT MOST 1048576: true; the input reads as it did. -/
def fnExactFreeNodeUptoRow : OpenClaim := { program := "yteffcglgdfhkmaadoor", sum := "a248a16d6e826b700dc5313d919a79080bbb0872f06065eff33bb03d42ecfd54", func := "loop.example/g00756/laws.FnExactFreeNode", spec := "fnExactFreeNode", inPlace := ["internal/bytealg.CountString", "internal/bytealg.IndexByteString", "internal/bytealg.IndexString"], unfollowed := true, recurses := true, named := ["unicode/utf8.first", "unicode/utf8.acceptRanges", "internal/bytealg.MaxLen"], apart := false, laid := [("unicode/utf8.acceptRanges", laid_unicode_utf8_acceptRanges), ("unicode/utf8.first", laid_unicode_utf8_first)], narrowed := true }
def FnExactFreeNodeUptoSaid : Prop := fnExactFreeNodeUptoRow.holds Tryd.pinned (OpenSpec.upto fnExactFreeNodeSpec)

/-- 'laws.FnExactParentOf', WHERE WHAT IT READS IS OF BULK AT MOST 1048576: true; the input reads as it did. -/
def fnExactParentOfUptoRow : OpenClaim := { program := "yteffcglgdfhkmaadoor", sum := "a248a16d6e826b700dc5313d919a79080bbb0872f06065eff33bb03d42ecfd54", func := "loop.example/g00756/laws.FnExactParentOf", spec := "fnExactParentOf", inPlace := ["internal/bytealg.CountString", "internal/bytealg.IndexByteString", "internal/bytealg.IndexString"], unfollowed := true, recurses := true, named := ["unicode/utf8.first", "unicode/utf8.acceptRanges", "internal/bytealg.MaxLen"], apart := false, laid := [("unicode/utf8.acceptRanges", laid_unicode_utf8_acceptRanges), ("unicode/utf8.first", laid_unicode_utf8_first)], narrowed := true }
def FnExactParentOfUptoSaid : Prop := fnExactParentOfUptoRow.holds Tryd.pinned (OpenSpec.upto fnExactParentOfSpec)

/-- 'laws.FnExactPathTo', WHERE WHAT IT READS IS OF BULK AT MOST 1048576: true; the input reads as it did. -/
def fnExactPathToUptoRow : OpenClaim := { program := "yteffcglgdfhkmaadoor", sum := "a248a16d6e826b700dc5313d919a79080bbb0872f06065eff33bb03d42ecfd54", func := "loop.example/g00756/laws.FnExactPathTo", spec := "fnExactPathTo", inPlace := ["internal/bytealg.CountString", "internal/bytealg.IndexByteString", "internal/bytealg.IndexString", "internal/abi.NoEscape", "internal/bytealg.MakeNoZero"], unfollowed := true, recurses := true, named := ["unicode/utf8.first", "unicode/utf8.acceptRanges", "internal/bytealg.MaxLen"], apart := false, laid := [("unicode/utf8.acceptRanges", laid_unicode_utf8_acceptRanges), ("unicode/utf8.first", laid_unicode_utf8_first)], narrowed := true }
def FnExactPathToUptoSaid : Prop := fnExactPathToUptoRow.holds Tryd.pinned (OpenSpec.upto fnExactPathToSpec)

/-- 'laws.FnExactDeepOf', WHERE WHAT IT READS IS OF BULK AT MOST 1048576: true; the input reads as it did. -/
def fnExactDeepOfUptoRow : OpenClaim := { program := "yteffcglgdfhkmaadoor", sum := "a248a16d6e826b700dc5313d919a79080bbb0872f06065eff33bb03d42ecfd54", func := "loop.example/g00756/laws.FnExactDeepOf", spec := "fnExactDeepOf", inPlace := ["internal/bytealg.CountString", "internal/bytealg.IndexByteString", "internal/bytealg.IndexString"], unfollowed := true, recurses := true, named := ["unicode/utf8.first", "unicode/utf8.acceptRanges", "internal/bytealg.MaxLen"], apart := false, laid := [("unicode/utf8.acceptRanges", laid_unicode_utf8_acceptRanges), ("unicode/utf8.first", laid_unicode_utf8_first)], narrowed := true }
def FnExactDeepOfUptoSaid : Prop := fnExactDeepOfUptoRow.holds Tryd.pinned (OpenSpec.upto fnExactDeepOfSpec)

/-- 'laws.FnExactWalkPost', WHERE WHAT IT READS IS OF BULK AT MOST 1048576: true; the input reads as it did. -/
def fnExactWalkPostUptoRow : OpenClaim := { program := "yteffcglgdfhkmaadoor", sum := "a248a16d6e826b700dc5313d919a79080bbb0872f06065eff33bb03d42ecfd54", func := "loop.example/g00756/laws.FnExactWalkPost", spec := "fnExactWalkPost", inPlace := ["internal/bytealg.CountString", "internal/bytealg.IndexByteString", "internal/bytealg.IndexString"], unfollowed := true, recurses := true, named := ["unicode/utf8.first", "unicode/utf8.acceptRanges", "internal/bytealg.MaxLen"], apart := false, laid := [("unicode/utf8.acceptRanges", laid_unicode_utf8_acceptRanges), ("unicode/utf8.first", laid_unicode_utf8_first)], narrowed := true }
def FnExactWalkPostUptoSaid : Prop := fnExactWalkPostUptoRow.holds Tryd.pinned (OpenSpec.upto fnExactWalkPostSpec)

/-- 'laws.FnExactWalkPre', WHERE WHAT IT READS IS OF BULK AT MOST 1048576: true; the input reads as it did. -/
def fnExactWalkPreUptoRow : OpenClaim := { program := "yteffcglgdfhkmaadoor", sum := "a248a16d6e826b700dc5313d919a79080bbb0872f06065eff33bb03d42ecfd54", func := "loop.example/g00756/laws.FnExactWalkPre", spec := "fnExactWalkPre", inPlace := ["internal/bytealg.CountString", "internal/bytealg.IndexByteString", "internal/bytealg.IndexString"], unfollowed := true, recurses := true, named := ["unicode/utf8.first", "unicode/utf8.acceptRanges", "internal/bytealg.MaxLen"], apart := false, laid := [("unicode/utf8.acceptRanges", laid_unicode_utf8_acceptRanges), ("unicode/utf8.first", laid_unicode_utf8_first)], narrowed := true }
def FnExactWalkPreUptoSaid : Prop := fnExactWalkPreUptoRow.holds Tryd.pinned (OpenSpec.upto fnExactWalkPreSpec)

/-- 'laws.FnExactOwnedBy', WHERE WHAT IT READS IS OF BULK AT MOST 1048576: true; the input reads as it did. -/
def fnExactOwnedByUptoRow : OpenClaim := { program := "yteffcglgdfhkmaadoor", sum := "a248a16d6e826b700dc5313d919a79080bbb0872f06065eff33bb03d42ecfd54", func := "loop.example/g00756/laws.FnExactOwnedBy", spec := "fnExactOwnedBy", inPlace := ["internal/bytealg.CountString", "internal/bytealg.IndexByteString", "internal/bytealg.IndexString"], unfollowed := true, recurses := true, named := ["unicode/utf8.first", "unicode/utf8.acceptRanges", "internal/bytealg.MaxLen"], apart := false, laid := [("unicode/utf8.acceptRanges", laid_unicode_utf8_acceptRanges), ("unicode/utf8.first", laid_unicode_utf8_first)], narrowed := true }
def FnExactOwnedByUptoSaid : Prop := fnExactOwnedByUptoRow.holds Tryd.pinned (OpenSpec.upto fnExactOwnedBySpec)

end Rows
end Go.Proofs.YteffcglgdfhkmaaDoor
