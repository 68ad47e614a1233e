/-
  No cell of these rows narrows 'for every input' (looked for: loops, veiled, ifaces, maps, wideKeys, modest, calm, conditions, laid).
  DERIVED. THE GIVEN ROWS OF THIS SEAT. 12 by the template 'for every input the law returns true; each argument reads behind the call as it read before'; 0 by the template 'total and deterministic' (their statements: YtpgdgkogllalnaaTotals.lean).
  GIVEN WITH THE SEED: the statements are not yours to turn. If you find one false, say at which input.
  Laid BY PROGRAM, IN A SANDBOX (cutbox-rows.mjs): the forced cells as the released guide's own fill.sh prints them over the translation 35e915261ab16961… (all of the seat's roots in one cut). By AI agents, Wed Nov 11 2026. No macro, syntax, notation, axiom, sorry.
-/
import Derived.Test.YtpgdgkogllalnaaChecked
import GoSem.Claim
import GoSem.ClaimJoined
import GoSem.ClaimMapViews
import Derived.JoinedTies
import Derived.KernelRfl
namespace Go.Proofs.Ytpgdgkogllalnaa
/- THE CELL 'sum', in the pinned program and in every row, IS THE sha256 OF THE DUMP (.gsa) THAT YtpgdgkogllalnaaProg.lean LOADS. Nothing in Lean hashes anything: it is a label: what it is worth is what the hold of that sum in a sandbox is worth. -/
noncomputable def Try.pinned : Pinned := { name := "ytpgdgkogllalnaa", sum := "35e915261ab16961cda9fce0bcf73a710f8894c4ea66034ccbe246fc573735c0", checked := Try.checked }
namespace Rows
def none {H : Type} : Left H := { results := [], args := [] }

/-- 'laws.FnExactConstants': WHATEVER THE INPUT: true; the input reads as it did. -/
def fnExactConstantsSpec : ChangeSpec := { name := "fnExactConstants", fn := fun _ => fun
  | [] => { results := [.lit (.bool true)], args := [] }
  | _ => none }
def fnExactConstantsRow : OpenClaim := { program := "ytpgdgkogllalnaa", sum := "35e915261ab16961cda9fce0bcf73a710f8894c4ea66034ccbe246fc573735c0", func := "loop.example/g00756/laws.FnExactConstants", spec := "fnExactConstants", apart := false }
def FnExactConstantsSaid : Prop := fnExactConstantsRow.holds Try.pinned (OpenSpec.ofChange fnExactConstantsSpec)

/-- ITS FALSE NEIGHBOUR: 'it returns false'. Refute it at one input. -/
def fnExactConstantsWrong : ChangeSpec := { name := "fnExactConstants", fn := fun _ => fun
  | [] => { results := [.lit (.bool false)], args := [] }
  | _ => none }
def FnExactConstantsWrongFalsely : Prop := fnExactConstantsRow.holds Try.pinned (OpenSpec.ofChange fnExactConstantsWrong)

/-- 'laws.FnExactGoodCred': WHATEVER THE INPUT: true; the input reads as it did. -/
def fnExactGoodCredSpec : ChangeSpec := { name := "fnExactGoodCred", fn := fun _ => fun
  | [d] => { results := [.lit (.bool true)], args := [d] }
  | _ => none }
def fnExactGoodCredRow : OpenClaim := { program := "ytpgdgkogllalnaa", sum := "35e915261ab16961cda9fce0bcf73a710f8894c4ea66034ccbe246fc573735c0", func := "loop.example/g00756/laws.FnExactGoodCred", spec := "fnExactGoodCred", apart := false }
def FnExactGoodCredSaid : Prop := fnExactGoodCredRow.holds Try.pinned (OpenSpec.ofChange fnExactGoodCredSpec)

/-- ITS FALSE NEIGHBOUR: 'it returns false'. Refute it at one input. -/
def fnExactGoodCredWrong : ChangeSpec := { name := "fnExactGoodCred", fn := fun _ => fun
  | [d] => { results := [.lit (.bool false)], args := [d] }
  | _ => none }
def FnExactGoodCredWrongFalsely : Prop := fnExactGoodCredRow.holds Try.pinned (OpenSpec.ofChange fnExactGoodCredWrong)

/-- 'laws.FnExactWithMask': WHATEVER THE INPUT: true; the input reads as it did. -/
def fnExactWithMaskSpec : ChangeSpec := { name := "fnExactWithMask", fn := fun _ => fun
  | [d1, d2] => { results := [.lit (.bool true)], args := [d1, d2] }
  | _ => none }
def fnExactWithMaskRow : OpenClaim := { program := "ytpgdgkogllalnaa", sum := "35e915261ab16961cda9fce0bcf73a710f8894c4ea66034ccbe246fc573735c0", func := "loop.example/g00756/laws.FnExactWithMask", spec := "fnExactWithMask", apart := false }
def FnExactWithMaskSaid : Prop := fnExactWithMaskRow.holds Try.pinned (OpenSpec.ofChange fnExactWithMaskSpec)

/-- ITS FALSE NEIGHBOUR: 'it returns false'. Refute it at one input. -/
def fnExactWithMaskWrong : ChangeSpec := { name := "fnExactWithMask", fn := fun _ => fun
  | [d1, d2] => { results := [.lit (.bool false)], args := [d1, d2] }
  | _ => none }
def FnExactWithMaskWrongFalsely : Prop := fnExactWithMaskRow.holds Try.pinned (OpenSpec.ofChange fnExactWithMaskWrong)

/-- 'laws.FnExactCodeText': WHATEVER THE INPUT: true; the input reads as it did. -/
def fnExactCodeTextSpec : ChangeSpec := { name := "fnExactCodeText", fn := fun _ => fun
  | [d] => { results := [.lit (.bool true)], args := [d] }
  | _ => none }
def fnExactCodeTextRow : OpenClaim := { program := "ytpgdgkogllalnaa", sum := "35e915261ab16961cda9fce0bcf73a710f8894c4ea66034ccbe246fc573735c0", func := "loop.example/g00756/laws.FnExactCodeText", spec := "fnExactCodeText", apart := false }
def FnExactCodeTextSaid : Prop := fnExactCodeTextRow.holds Try.pinned (OpenSpec.ofChange fnExactCodeTextSpec)

/-- ITS FALSE NEIGHBOUR: 'it returns false'. Refute it at one input. -/
def fnExactCodeTextWrong : ChangeSpec := { name := "fnExactCodeText", fn := fun _ => fun
  | [d] => { results := [.lit (.bool false)], args := [d] }
  | _ => none }
def FnExactCodeTextWrongFalsely : Prop := fnExactCodeTextRow.holds Try.pinned (OpenSpec.ofChange fnExactCodeTextWrong)

/-- 'laws.FnExactOctalText': WHATEVER THE INPUT: true; the input reads as it did. -/
def fnExactOctalTextSpec : ChangeSpec := { name := "fnExactOctalText", fn := fun _ => fun
  | [d] => { results := [.lit (.bool true)], args := [d] }
  | _ => none }
def fnExactOctalTextRow : OpenClaim := { program := "ytpgdgkogllalnaa", sum := "35e915261ab16961cda9fce0bcf73a710f8894c4ea66034ccbe246fc573735c0", func := "loop.example/g00756/laws.FnExactOctalText", spec := "fnExactOctalText", recurses := true, apart := false }
def FnExactOctalTextSaid : Prop := fnExactOctalTextRow.holds Try.pinned (OpenSpec.ofChange fnExactOctalTextSpec)

/-- ITS FALSE NEIGHBOUR: 'it returns false'. Refute it at one input. -/
def fnExactOctalTextWrong : ChangeSpec := { name := "fnExactOctalText", fn := fun _ => fun
  | [d] => { results := [.lit (.bool false)], args := [d] }
  | _ => none }
def FnExactOctalTextWrongFalsely : Prop := fnExactOctalTextRow.holds Try.pinned (OpenSpec.ofChange fnExactOctalTextWrong)

/-- 'laws.FnExactReadOctal': WHATEVER THE INPUT: true; the input reads as it did. -/
def fnExactReadOctalSpec : ChangeSpec := { name := "fnExactReadOctal", fn := fun _ => fun
  | [d] => { results := [.lit (.bool true)], args := [d] }
  | _ => none }
def fnExactReadOctalRow : OpenClaim := { program := "ytpgdgkogllalnaa", sum := "35e915261ab16961cda9fce0bcf73a710f8894c4ea66034ccbe246fc573735c0", func := "loop.example/g00756/laws.FnExactReadOctal", spec := "fnExactReadOctal", recurses := true, apart := false }
def FnExactReadOctalSaid : Prop := fnExactReadOctalRow.holds Try.pinned (OpenSpec.ofChange fnExactReadOctalSpec)

/-- ITS FALSE NEIGHBOUR: 'it returns false'. Refute it at one input. -/
def fnExactReadOctalWrong : ChangeSpec := { name := "fnExactReadOctal", fn := fun _ => fun
  | [d] => { results := [.lit (.bool false)], args := [d] }
  | _ => none }
def FnExactReadOctalWrongFalsely : Prop := fnExactReadOctalRow.holds Try.pinned (OpenSpec.ofChange fnExactReadOctalWrong)

/-- 'laws.FnExactGoodName': WHATEVER THE INPUT: true; the input reads as it did. -/
def fnExactGoodNameSpec : ChangeSpec := { name := "fnExactGoodName", fn := fun _ => fun
  | [d] => { results := [.lit (.bool true)], args := [d] }
  | _ => none }
def fnExactGoodNameRow : OpenClaim := { program := "ytpgdgkogllalnaa", sum := "35e915261ab16961cda9fce0bcf73a710f8894c4ea66034ccbe246fc573735c0", func := "loop.example/g00756/laws.FnExactGoodName", spec := "fnExactGoodName", unfollowed := true, recurses := true, apart := false }
def FnExactGoodNameSaid : Prop := fnExactGoodNameRow.holds Try.pinned (OpenSpec.ofChange fnExactGoodNameSpec)

/-- ITS FALSE NEIGHBOUR: 'it returns false'. Refute it at one input. -/
def fnExactGoodNameWrong : ChangeSpec := { name := "fnExactGoodName", fn := fun _ => fun
  | [d] => { results := [.lit (.bool false)], args := [d] }
  | _ => none }
def FnExactGoodNameWrongFalsely : Prop := fnExactGoodNameRow.holds Try.pinned (OpenSpec.ofChange fnExactGoodNameWrong)

/-- 'laws.FnExactModeText': WHATEVER THE INPUT: true; the input reads as it did. -/
def fnExactModeTextSpec : ChangeSpec := { name := "fnExactModeText", fn := fun _ => fun
  | [d] => { results := [.lit (.bool true)], args := [d] }
  | _ => none }
def fnExactModeTextRow : OpenClaim := { program := "ytpgdgkogllalnaa", sum := "35e915261ab16961cda9fce0bcf73a710f8894c4ea66034ccbe246fc573735c0", func := "loop.example/g00756/laws.FnExactModeText", spec := "fnExactModeText", apart := false }
def FnExactModeTextSaid : Prop := fnExactModeTextRow.holds Try.pinned (OpenSpec.ofChange fnExactModeTextSpec)

/-- ITS FALSE NEIGHBOUR: 'it returns false'. Refute it at one input. -/
def fnExactModeTextWrong : ChangeSpec := { name := "fnExactModeText", fn := fun _ => fun
  | [d] => { results := [.lit (.bool false)], args := [d] }
  | _ => none }
def FnExactModeTextWrongFalsely : Prop := fnExactModeTextRow.holds Try.pinned (OpenSpec.ofChange fnExactModeTextWrong)

/-- 'laws.FnExactReadMode': WHATEVER THE INPUT: true; the input reads as it did. -/
def fnExactReadModeSpec : ChangeSpec := { name := "fnExactReadMode", fn := fun _ => fun
  | [d] => { results := [.lit (.bool true)], args := [d] }
  | _ => none }
def fnExactReadModeRow : OpenClaim := { program := "ytpgdgkogllalnaa", sum := "35e915261ab16961cda9fce0bcf73a710f8894c4ea66034ccbe246fc573735c0", func := "loop.example/g00756/laws.FnExactReadMode", spec := "fnExactReadMode", apart := false }
def FnExactReadModeSaid : Prop := fnExactReadModeRow.holds Try.pinned (OpenSpec.ofChange fnExactReadModeSpec)

/-- ITS FALSE NEIGHBOUR: 'it returns false'. Refute it at one input. -/
def fnExactReadModeWrong : ChangeSpec := { name := "fnExactReadMode", fn := fun _ => fun
  | [d] => { results := [.lit (.bool false)], args := [d] }
  | _ => none }
def FnExactReadModeWrongFalsely : Prop := fnExactReadModeRow.holds Try.pinned (OpenSpec.ofChange fnExactReadModeWrong)

/-- 'laws.FnExactMay': WHATEVER THE INPUT: true; the input reads as it did. -/
def fnExactMaySpec : ChangeSpec := { name := "fnExactMay", fn := fun _ => fun
  | [d1, d2, d3, d4, d5] => { results := [.lit (.bool true)], args := [d1, d2, d3, d4, d5] }
  | _ => none }
def fnExactMayRow : OpenClaim := { program := "ytpgdgkogllalnaa", sum := "35e915261ab16961cda9fce0bcf73a710f8894c4ea66034ccbe246fc573735c0", func := "loop.example/g00756/laws.FnExactMay", spec := "fnExactMay", apart := false }
def FnExactMaySaid : Prop := fnExactMayRow.holds Try.pinned (OpenSpec.ofChange fnExactMaySpec)

/-- ITS FALSE NEIGHBOUR: 'it returns false'. Refute it at one input. -/
def fnExactMayWrong : ChangeSpec := { name := "fnExactMay", fn := fun _ => fun
  | [d1, d2, d3, d4, d5] => { results := [.lit (.bool false)], args := [d1, d2, d3, d4, d5] }
  | _ => none }
def FnExactMayWrongFalsely : Prop := fnExactMayRow.holds Try.pinned (OpenSpec.ofChange fnExactMayWrong)

/-- 'laws.FnExactNewDecks': WHATEVER THE INPUT: true; the input reads as it did. -/
def fnExactNewDecksSpec : ChangeSpec := { name := "fnExactNewDecks", fn := fun _ => fun
  | [d] => { results := [.lit (.bool true)], args := [d] }
  | _ => none }
def fnExactNewDecksRow : OpenClaim := { program := "ytpgdgkogllalnaa", sum := "35e915261ab16961cda9fce0bcf73a710f8894c4ea66034ccbe246fc573735c0", func := "loop.example/g00756/laws.FnExactNewDecks", spec := "fnExactNewDecks", apart := false }
def FnExactNewDecksSaid : Prop := fnExactNewDecksRow.holds Try.pinned (OpenSpec.ofChange fnExactNewDecksSpec)

/-- ITS FALSE NEIGHBOUR: 'it returns false'. Refute it at one input. -/
def fnExactNewDecksWrong : ChangeSpec := { name := "fnExactNewDecks", fn := fun _ => fun
  | [d] => { results := [.lit (.bool false)], args := [d] }
  | _ => none }
def FnExactNewDecksWrongFalsely : Prop := fnExactNewDecksRow.holds Try.pinned (OpenSpec.ofChange fnExactNewDecksWrong)

/-- 'laws.FnExactChangeMode': WHATEVER THE INPUT: true; the input reads as it did. -/
def fnExactChangeModeSpec : ChangeSpec := { name := "fnExactChangeMode", fn := fun _ => fun
  | [d1, d2] => { results := [.lit (.bool true)], args := [d1, d2] }
  | _ => none }
def fnExactChangeModeRow : OpenClaim := { program := "ytpgdgkogllalnaa", sum := "35e915261ab16961cda9fce0bcf73a710f8894c4ea66034ccbe246fc573735c0", func := "loop.example/g00756/laws.FnExactChangeMode", spec := "fnExactChangeMode", inPlace := ["internal/bytealg.IndexByteString", "internal/bytealg.IndexString"], named := ["internal/bytealg.MaxLen"], apart := false }
def FnExactChangeModeSaid : Prop := fnExactChangeModeRow.holds Try.pinned (OpenSpec.ofChange fnExactChangeModeSpec)

/-- ITS FALSE NEIGHBOUR: 'it returns false'. Refute it at one input. -/
def fnExactChangeModeWrong : ChangeSpec := { name := "fnExactChangeMode", fn := fun _ => fun
  | [d1, d2] => { results := [.lit (.bool false)], args := [d1, d2] }
  | _ => none }
def FnExactChangeModeWrongFalsely : Prop := fnExactChangeModeRow.holds Try.pinned (OpenSpec.ofChange fnExactChangeModeWrong)

/- THE SECOND FORM. 'bulk': how many values and letters a reading holds, each counted each time it is reached (what is shared counts as often as it is met; a slice's spare places count too). A statement '..UptoSaid' is the law's where the arguments, and the package variables that the reading takes, are together of bulk at most 1048576: NARROWER than '..Said'. Prove '..Said' where nothing that the law and all that it calls make is longer than what came in: it says more and counts as full. Else prove '..UptoSaid'. A law counts once. -/
mutual
def uptoBulk {H : Type} : DataW H → Nat
  | .lit (.string bytes) => bytes.length + 1
  | .lit _ => 1
  | .nil => 1
  | .ptr d => uptoBulk d + 1
  | .slice elems spare => uptoBulkAll elems + uptoBulkAll spare + 1
  | .agg parts => uptoBulkAll parts + 1
  | .iface _ d => uptoBulk d + 1
  | .map entries => uptoBulkEntries entries + 1
  | .held _ => 1
def uptoBulkAll {H : Type} : List (DataW H) → Nat
  | [] => 0
  | d :: r => uptoBulk d + uptoBulkAll r
def uptoBulkEntries {H : Type} : List (Lit × DataW H) → Nat
  | [] => 0
  | x :: r => uptoBulkEntry x + uptoBulkEntries r
def uptoBulkEntry {H : Type} : Lit × DataW H → Nat
  | (.string bytes, d) => bytes.length + uptoBulk d + 1
  | (_, d) => uptoBulk d + 1
 end
def uptoSmall : (H : Type) → List (DataW H) → Bool := fun _ ds => decide (uptoBulkAll ds ≤ 1048576)
def OpenSpec.upto (s : _root_.Go.ChangeSpec) : _root_.Go.OpenSpec := { _root_.Go.OpenSpec.ofChange s with cond := some uptoSmall }

/-- 'laws.FnExactConstants', WHERE WHAT IT READS IS OF BULK AT MOST 1048576: true; the input reads as it did. -/
def fnExactConstantsUptoRow : OpenClaim := { program := "ytpgdgkogllalnaa", sum := "35e915261ab16961cda9fce0bcf73a710f8894c4ea66034ccbe246fc573735c0", func := "loop.example/g00756/laws.FnExactConstants", spec := "fnExactConstants", apart := false, narrowed := true }
def FnExactConstantsUptoSaid : Prop := fnExactConstantsUptoRow.holds Try.pinned (OpenSpec.upto fnExactConstantsSpec)

/-- 'laws.FnExactGoodCred', WHERE WHAT IT READS IS OF BULK AT MOST 1048576: true; the input reads as it did. -/
def fnExactGoodCredUptoRow : OpenClaim := { program := "ytpgdgkogllalnaa", sum := "35e915261ab16961cda9fce0bcf73a710f8894c4ea66034ccbe246fc573735c0", func := "loop.example/g00756/laws.FnExactGoodCred", spec := "fnExactGoodCred", apart := false, narrowed := true }
def FnExactGoodCredUptoSaid : Prop := fnExactGoodCredUptoRow.holds Try.pinned (OpenSpec.upto fnExactGoodCredSpec)

/-- 'laws.FnExactWithMask', WHERE WHAT IT READS IS OF BULK AT MOST 1048576: true; the input reads as it did. -/
def fnExactWithMaskUptoRow : OpenClaim := { program := "ytpgdgkogllalnaa", sum := "35e915261ab16961cda9fce0bcf73a710f8894c4ea66034ccbe246fc573735c0", func := "loop.example/g00756/laws.FnExactWithMask", spec := "fnExactWithMask", apart := false, narrowed := true }
def FnExactWithMaskUptoSaid : Prop := fnExactWithMaskUptoRow.holds Try.pinned (OpenSpec.upto fnExactWithMaskSpec)

/-- 'laws.FnExactCodeText', WHERE WHAT IT READS IS OF BULK AT MOST 1048576: true; the input reads as it did. -/
def fnExactCodeTextUptoRow : OpenClaim := { program := "ytpgdgkogllalnaa", sum := "35e915261ab16961cda9fce0bcf73a710f8894c4ea66034ccbe246fc573735c0", func := "loop.example/g00756/laws.FnExactCodeText", spec := "fnExactCodeText", apart := false, narrowed := true }
def FnExactCodeTextUptoSaid : Prop := fnExactCodeTextUptoRow.holds Try.pinned (OpenSpec.upto fnExactCodeTextSpec)

/-- 'laws.FnExactOctalText', WHERE WHAT IT READS IS OF BULK AT MOST 1048576: true; the input reads as it did. -/
def fnExactOctalTextUptoRow : OpenClaim := { program := "ytpgdgkogllalnaa", sum := "35e915261ab16961cda9fce0bcf73a710f8894c4ea66034ccbe246fc573735c0", func := "loop.example/g00756/laws.FnExactOctalText", spec := "fnExactOctalText", recurses := true, apart := false, narrowed := true }
def FnExactOctalTextUptoSaid : Prop := fnExactOctalTextUptoRow.holds Try.pinned (OpenSpec.upto fnExactOctalTextSpec)

/-- 'laws.FnExactReadOctal', WHERE WHAT IT READS IS OF BULK AT MOST 1048576: true; the input reads as it did. -/
def fnExactReadOctalUptoRow : OpenClaim := { program := "ytpgdgkogllalnaa", sum := "35e915261ab16961cda9fce0bcf73a710f8894c4ea66034ccbe246fc573735c0", func := "loop.example/g00756/laws.FnExactReadOctal", spec := "fnExactReadOctal", recurses := true, apart := false, narrowed := true }
def FnExactReadOctalUptoSaid : Prop := fnExactReadOctalUptoRow.holds Try.pinned (OpenSpec.upto fnExactReadOctalSpec)

/-- 'laws.FnExactGoodName', WHERE WHAT IT READS IS OF BULK AT MOST 1048576: true; the input reads as it did. -/
def fnExactGoodNameUptoRow : OpenClaim := { program := "ytpgdgkogllalnaa", sum := "35e915261ab16961cda9fce0bcf73a710f8894c4ea66034ccbe246fc573735c0", func := "loop.example/g00756/laws.FnExactGoodName", spec := "fnExactGoodName", unfollowed := true, recurses := true, apart := false, narrowed := true }
def FnExactGoodNameUptoSaid : Prop := fnExactGoodNameUptoRow.holds Try.pinned (OpenSpec.upto fnExactGoodNameSpec)

/-- 'laws.FnExactModeText', WHERE WHAT IT READS IS OF BULK AT MOST 1048576: true; the input reads as it did. -/
def fnExactModeTextUptoRow : OpenClaim := { program := "ytpgdgkogllalnaa", sum := "35e915261ab16961cda9fce0bcf73a710f8894c4ea66034ccbe246fc573735c0", func := "loop.example/g00756/laws.FnExactModeText", spec := "fnExactModeText", apart := false, narrowed := true }
def FnExactModeTextUptoSaid : Prop := fnExactModeTextUptoRow.holds Try.pinned (OpenSpec.upto fnExactModeTextSpec)

/-- 'laws.FnExactReadMode', WHERE WHAT IT READS IS OF BULK AT MOST 1048576: true; the input reads as it did. -/
def fnExactReadModeUptoRow : OpenClaim := { program := "ytpgdgkogllalnaa", sum := "35e915261ab16961cda9fce0bcf73a710f8894c4ea66034ccbe246fc573735c0", func := "loop.example/g00756/laws.FnExactReadMode", spec := "fnExactReadMode", apart := false, narrowed := true }
def FnExactReadModeUptoSaid : Prop := fnExactReadModeUptoRow.holds Try.pinned (OpenSpec.upto fnExactReadModeSpec)

/-- 'laws.FnExactMay', WHERE WHAT IT READS IS OF BULK AT MOST 1048576: true; the input reads as it did. -/
def fnExactMayUptoRow : OpenClaim := { program := "ytpgdgkogllalnaa", sum := "35e915261ab16961cda9fce0bcf73a710f8894c4ea66034ccbe246fc573735c0", func := "loop.example/g00756/laws.FnExactMay", spec := "fnExactMay", apart := false, narrowed := true }
def FnExactMayUptoSaid : Prop := fnExactMayUptoRow.holds Try.pinned (OpenSpec.upto fnExactMaySpec)

/-- 'laws.FnExactNewDecks', WHERE WHAT IT READS IS OF BULK AT MOST 1048576: true; the input reads as it did. -/
def fnExactNewDecksUptoRow : OpenClaim := { program := "ytpgdgkogllalnaa", sum := "35e915261ab16961cda9fce0bcf73a710f8894c4ea66034ccbe246fc573735c0", func := "loop.example/g00756/laws.FnExactNewDecks", spec := "fnExactNewDecks", apart := false, narrowed := true }
def FnExactNewDecksUptoSaid : Prop := fnExactNewDecksUptoRow.holds Try.pinned (OpenSpec.upto fnExactNewDecksSpec)

/-- 'laws.FnExactChangeMode', WHERE WHAT IT READS IS OF BULK AT MOST 1048576: true; the input reads as it did. -/
def fnExactChangeModeUptoRow : OpenClaim := { program := "ytpgdgkogllalnaa", sum := "35e915261ab16961cda9fce0bcf73a710f8894c4ea66034ccbe246fc573735c0", func := "loop.example/g00756/laws.FnExactChangeMode", spec := "fnExactChangeMode", inPlace := ["internal/bytealg.IndexByteString", "internal/bytealg.IndexString"], named := ["internal/bytealg.MaxLen"], apart := false, narrowed := true }
def FnExactChangeModeUptoSaid : Prop := fnExactChangeModeUptoRow.holds Try.pinned (OpenSpec.upto fnExactChangeModeSpec)

end Rows
end Go.Proofs.Ytpgdgkogllalnaa
