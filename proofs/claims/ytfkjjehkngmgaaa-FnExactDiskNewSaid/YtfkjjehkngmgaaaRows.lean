/-
  No cell of these rows narrows 'for every input' (looked for: loops, veiled, ifaces, maps, wideKeys, modest, calm, conditions, laid).
  DERIVED. THE GIVEN ROWS OF THIS SEAT. 11 by the template 'for every input the law returns true; each argument reads behind the call as it read before'; 0 by the template 'total and deterministic' (their statements: YtfkjjehkngmgaaaTotals.lean).
  GIVEN WITH THE SEED: the statements are not yours to turn. If you find one false, say at which input.
  Laid BY PROGRAM, IN A SANDBOX (cutbox-rows.mjs): the forced cells as the released guide's own fill.sh prints them over the translation c4c1fc281458df44… (all of the seat's roots in one cut). By AI agents, Wed Nov 11 2026. No macro, syntax, notation, axiom, sorry.
-/
import Derived.Test.YtfkjjehkngmgaaaChecked
import GoSem.Claim
import GoSem.ClaimJoined
import GoSem.ClaimMapViews
import Derived.JoinedTies
import Derived.KernelRfl
namespace Go.Proofs.Ytfkjjehkngmgaaa
/- THE CELL 'sum', in the pinned program and in every row, IS THE sha256 OF THE DUMP (.gsa) THAT YtfkjjehkngmgaaaProg.lean LOADS. Nothing in Lean hashes anything: it is a label: what it is worth is what the hold of that sum in a sandbox is worth. -/
noncomputable def Try.pinned : Pinned := { name := "ytfkjjehkngmgaaa", sum := "c4c1fc281458df44cedeab72d5912c2594bffba5cca7fd8b71e0d0b24342facf", checked := Try.checked }
namespace Rows
def none {H : Type} : Left H := { results := [], args := [] }

/-- 'laws.FnExactDirNew': WHATEVER THE INPUT: true; the input reads as it did. -/
def fnExactDirNewSpec : ChangeSpec := { name := "fnExactDirNew", fn := fun _ => fun
  | [] => { results := [.lit (.bool true)], args := [] }
  | _ => none }
def fnExactDirNewRow : OpenClaim := { program := "ytfkjjehkngmgaaa", sum := "c4c1fc281458df44cedeab72d5912c2594bffba5cca7fd8b71e0d0b24342facf", func := "loop.example/g00235/laws.FnExactDirNew", spec := "fnExactDirNew", apart := false }
def FnExactDirNewSaid : Prop := fnExactDirNewRow.holds Try.pinned (OpenSpec.ofChange fnExactDirNewSpec)

/-- ITS FALSE NEIGHBOUR: 'it returns false'. Refute it at one input. -/
def fnExactDirNewWrong : ChangeSpec := { name := "fnExactDirNew", fn := fun _ => fun
  | [] => { results := [.lit (.bool false)], args := [] }
  | _ => none }
def FnExactDirNewWrongFalsely : Prop := fnExactDirNewRow.holds Try.pinned (OpenSpec.ofChange fnExactDirNewWrong)

/-- 'laws.FnNewInodes': WHATEVER THE INPUT: true; the input reads as it did. -/
def fnNewInodesSpec : ChangeSpec := { name := "fnNewInodes", fn := fun _ => fun
  | [d] => { results := [.lit (.bool true)], args := [d] }
  | _ => none }
def fnNewInodesRow : OpenClaim := { program := "ytfkjjehkngmgaaa", sum := "c4c1fc281458df44cedeab72d5912c2594bffba5cca7fd8b71e0d0b24342facf", func := "loop.example/g00235/laws.FnNewInodes", spec := "fnNewInodes", apart := false }
def FnNewInodesSaid : Prop := fnNewInodesRow.holds Try.pinned (OpenSpec.ofChange fnNewInodesSpec)

/-- ITS FALSE NEIGHBOUR: 'it returns false'. Refute it at one input. -/
def fnNewInodesWrong : ChangeSpec := { name := "fnNewInodes", fn := fun _ => fun
  | [d] => { results := [.lit (.bool false)], args := [d] }
  | _ => none }
def FnNewInodesWrongFalsely : Prop := fnNewInodesRow.holds Try.pinned (OpenSpec.ofChange fnNewInodesWrong)

/-- 'laws.FnExactReadBits': WHATEVER THE INPUT: true; the input reads as it did. -/
def fnExactReadBitsSpec : ChangeSpec := { name := "fnExactReadBits", fn := fun _ => fun
  | [d] => { results := [.lit (.bool true)], args := [d] }
  | _ => none }
def fnExactReadBitsRow : OpenClaim := { program := "ytfkjjehkngmgaaa", sum := "c4c1fc281458df44cedeab72d5912c2594bffba5cca7fd8b71e0d0b24342facf", func := "loop.example/g00235/laws.FnExactReadBits", spec := "fnExactReadBits", apart := false }
def FnExactReadBitsSaid : Prop := fnExactReadBitsRow.holds Try.pinned (OpenSpec.ofChange fnExactReadBitsSpec)

/-- ITS FALSE NEIGHBOUR: 'it returns false'. Refute it at one input. -/
def fnExactReadBitsWrong : ChangeSpec := { name := "fnExactReadBits", fn := fun _ => fun
  | [d] => { results := [.lit (.bool false)], args := [d] }
  | _ => none }
def FnExactReadBitsWrongFalsely : Prop := fnExactReadBitsRow.holds Try.pinned (OpenSpec.ofChange fnExactReadBitsWrong)

/-- 'laws.FnExactInodeText': WHATEVER THE INPUT: true; the input reads as it did. -/
def fnExactInodeTextSpec : ChangeSpec := { name := "fnExactInodeText", fn := fun _ => fun
  | [d] => { results := [.lit (.bool true)], args := [d] }
  | _ => none }
def fnExactInodeTextRow : OpenClaim := { program := "ytfkjjehkngmgaaa", sum := "c4c1fc281458df44cedeab72d5912c2594bffba5cca7fd8b71e0d0b24342facf", func := "loop.example/g00235/laws.FnExactInodeText", spec := "fnExactInodeText", apart := false }
def FnExactInodeTextSaid : Prop := fnExactInodeTextRow.holds Try.pinned (OpenSpec.ofChange fnExactInodeTextSpec)

/-- ITS FALSE NEIGHBOUR: 'it returns false'. Refute it at one input. -/
def fnExactInodeTextWrong : ChangeSpec := { name := "fnExactInodeText", fn := fun _ => fun
  | [d] => { results := [.lit (.bool false)], args := [d] }
  | _ => none }
def FnExactInodeTextWrongFalsely : Prop := fnExactInodeTextRow.holds Try.pinned (OpenSpec.ofChange fnExactInodeTextWrong)

/-- 'laws.FnTurned': WHATEVER THE INPUT: true; the input reads as it did. -/
def fnTurnedSpec : ChangeSpec := { name := "fnTurned", fn := fun _ => fun
  | [d] => { results := [.lit (.bool true)], args := [d] }
  | _ => none }
def fnTurnedRow : OpenClaim := { program := "ytfkjjehkngmgaaa", sum := "c4c1fc281458df44cedeab72d5912c2594bffba5cca7fd8b71e0d0b24342facf", func := "loop.example/g00235/laws.FnTurned", spec := "fnTurned", apart := false }
def FnTurnedSaid : Prop := fnTurnedRow.holds Try.pinned (OpenSpec.ofChange fnTurnedSpec)

/-- ITS FALSE NEIGHBOUR: 'it returns false'. Refute it at one input. -/
def fnTurnedWrong : ChangeSpec := { name := "fnTurned", fn := fun _ => fun
  | [d] => { results := [.lit (.bool false)], args := [d] }
  | _ => none }
def FnTurnedWrongFalsely : Prop := fnTurnedRow.holds Try.pinned (OpenSpec.ofChange fnTurnedWrong)

/-- 'laws.FnExactReadInode': WHATEVER THE INPUT: true; the input reads as it did. -/
def fnExactReadInodeSpec : ChangeSpec := { name := "fnExactReadInode", fn := fun _ => fun
  | [d] => { results := [.lit (.bool true)], args := [d] }
  | _ => none }
def fnExactReadInodeRow : OpenClaim := { program := "ytfkjjehkngmgaaa", sum := "c4c1fc281458df44cedeab72d5912c2594bffba5cca7fd8b71e0d0b24342facf", func := "loop.example/g00235/laws.FnExactReadInode", spec := "fnExactReadInode", apart := false }
def FnExactReadInodeSaid : Prop := fnExactReadInodeRow.holds Try.pinned (OpenSpec.ofChange fnExactReadInodeSpec)

/-- ITS FALSE NEIGHBOUR: 'it returns false'. Refute it at one input. -/
def fnExactReadInodeWrong : ChangeSpec := { name := "fnExactReadInode", fn := fun _ => fun
  | [d] => { results := [.lit (.bool false)], args := [d] }
  | _ => none }
def FnExactReadInodeWrongFalsely : Prop := fnExactReadInodeRow.holds Try.pinned (OpenSpec.ofChange fnExactReadInodeWrong)

/-- 'laws.FnExactBitsText': WHATEVER THE INPUT: true; the input reads as it did. -/
def fnExactBitsTextSpec : ChangeSpec := { name := "fnExactBitsText", fn := fun _ => fun
  | [d] => { results := [.lit (.bool true)], args := [d] }
  | _ => none }
def fnExactBitsTextRow : OpenClaim := { program := "ytfkjjehkngmgaaa", sum := "c4c1fc281458df44cedeab72d5912c2594bffba5cca7fd8b71e0d0b24342facf", func := "loop.example/g00235/laws.FnExactBitsText", spec := "fnExactBitsText", apart := false }
def FnExactBitsTextSaid : Prop := fnExactBitsTextRow.holds Try.pinned (OpenSpec.ofChange fnExactBitsTextSpec)

/-- ITS FALSE NEIGHBOUR: 'it returns false'. Refute it at one input. -/
def fnExactBitsTextWrong : ChangeSpec := { name := "fnExactBitsText", fn := fun _ => fun
  | [d] => { results := [.lit (.bool false)], args := [d] }
  | _ => none }
def FnExactBitsTextWrongFalsely : Prop := fnExactBitsTextRow.holds Try.pinned (OpenSpec.ofChange fnExactBitsTextWrong)

/-- 'laws.FnBits': WHATEVER THE INPUT: true; the input reads as it did. -/
def fnBitsSpec : ChangeSpec := { name := "fnBits", fn := fun _ => fun
  | [d] => { results := [.lit (.bool true)], args := [d] }
  | _ => none }
def fnBitsRow : OpenClaim := { program := "ytfkjjehkngmgaaa", sum := "c4c1fc281458df44cedeab72d5912c2594bffba5cca7fd8b71e0d0b24342facf", func := "loop.example/g00235/laws.FnBits", spec := "fnBits", apart := false }
def FnBitsSaid : Prop := fnBitsRow.holds Try.pinned (OpenSpec.ofChange fnBitsSpec)

/-- ITS FALSE NEIGHBOUR: 'it returns false'. Refute it at one input. -/
def fnBitsWrong : ChangeSpec := { name := "fnBits", fn := fun _ => fun
  | [d] => { results := [.lit (.bool false)], args := [d] }
  | _ => none }
def FnBitsWrongFalsely : Prop := fnBitsRow.holds Try.pinned (OpenSpec.ofChange fnBitsWrong)

/-- 'laws.FnExactWriteUnit': WHATEVER THE INPUT: true; the input reads as it did. -/
def fnExactWriteUnitSpec : ChangeSpec := { name := "fnExactWriteUnit", fn := fun _ => fun
  | [d1, d2, d3] => { results := [.lit (.bool true)], args := [d1, d2, d3] }
  | _ => none }
def fnExactWriteUnitRow : OpenClaim := { program := "ytfkjjehkngmgaaa", sum := "c4c1fc281458df44cedeab72d5912c2594bffba5cca7fd8b71e0d0b24342facf", func := "loop.example/g00235/laws.FnExactWriteUnit", spec := "fnExactWriteUnit", apart := false }
def FnExactWriteUnitSaid : Prop := fnExactWriteUnitRow.holds Try.pinned (OpenSpec.ofChange fnExactWriteUnitSpec)

/-- ITS FALSE NEIGHBOUR: 'it returns false'. Refute it at one input. -/
def fnExactWriteUnitWrong : ChangeSpec := { name := "fnExactWriteUnit", fn := fun _ => fun
  | [d1, d2, d3] => { results := [.lit (.bool false)], args := [d1, d2, d3] }
  | _ => none }
def FnExactWriteUnitWrongFalsely : Prop := fnExactWriteUnitRow.holds Try.pinned (OpenSpec.ofChange fnExactWriteUnitWrong)

/-- 'laws.FnInodes': WHATEVER THE INPUT: true; the input reads as it did. -/
def fnInodesSpec : ChangeSpec := { name := "fnInodes", fn := fun _ => fun
  | [d] => { results := [.lit (.bool true)], args := [d] }
  | _ => none }
def fnInodesRow : OpenClaim := { program := "ytfkjjehkngmgaaa", sum := "c4c1fc281458df44cedeab72d5912c2594bffba5cca7fd8b71e0d0b24342facf", func := "loop.example/g00235/laws.FnInodes", spec := "fnInodes", apart := false }
def FnInodesSaid : Prop := fnInodesRow.holds Try.pinned (OpenSpec.ofChange fnInodesSpec)

/-- ITS FALSE NEIGHBOUR: 'it returns false'. Refute it at one input. -/
def fnInodesWrong : ChangeSpec := { name := "fnInodes", fn := fun _ => fun
  | [d] => { results := [.lit (.bool false)], args := [d] }
  | _ => none }
def FnInodesWrongFalsely : Prop := fnInodesRow.holds Try.pinned (OpenSpec.ofChange fnInodesWrong)

/-- 'laws.FnExactDiskNew': WHATEVER THE INPUT: true; the input reads as it did. -/
def fnExactDiskNewSpec : ChangeSpec := { name := "fnExactDiskNew", fn := fun _ => fun
  | [] => { results := [.lit (.bool true)], args := [] }
  | _ => none }
def fnExactDiskNewRow : OpenClaim := { program := "ytfkjjehkngmgaaa", sum := "c4c1fc281458df44cedeab72d5912c2594bffba5cca7fd8b71e0d0b24342facf", func := "loop.example/g00235/laws.FnExactDiskNew", spec := "fnExactDiskNew", apart := false }
def FnExactDiskNewSaid : Prop := fnExactDiskNewRow.holds Try.pinned (OpenSpec.ofChange fnExactDiskNewSpec)

/-- ITS FALSE NEIGHBOUR: 'it returns false'. Refute it at one input. -/
def fnExactDiskNewWrong : ChangeSpec := { name := "fnExactDiskNew", fn := fun _ => fun
  | [] => { results := [.lit (.bool false)], args := [] }
  | _ => none }
def FnExactDiskNewWrongFalsely : Prop := fnExactDiskNewRow.holds Try.pinned (OpenSpec.ofChange fnExactDiskNewWrong)

/- THE SECOND FORM. 'bulk': how many values and letters a reading holds, each counted each time it is reached (what is shared counts as often as it is met; a slice's spare places count too). A statement '..UptoSaid' is the law's where the arguments, and the package variables that the reading takes, are together of bulk at most 1048576: NARROWER than '..Said'. Prove '..Said' where nothing that the law and all that it calls make is longer than what came in: it says more and counts as full. Else prove '..UptoSaid'. A law counts once. -/
mutual
def uptoBulk {H : Type} : DataW H → Nat
  | .lit (.string bytes) => bytes.length + 1
  | .lit _ => 1
  | .nil => 1
  | .ptr d => uptoBulk d + 1
  | .slice elems spare => uptoBulkAll elems + uptoBulkAll spare + 1
  | .agg parts => uptoBulkAll parts + 1
  | .iface _ d => uptoBulk d + 1
  | .map entries => uptoBulkEntries entries + 1
  | .held _ => 1
def uptoBulkAll {H : Type} : List (DataW H) → Nat
  | [] => 0
  | d :: r => uptoBulk d + uptoBulkAll r
def uptoBulkEntries {H : Type} : List (Lit × DataW H) → Nat
  | [] => 0
  | x :: r => uptoBulkEntry x + uptoBulkEntries r
def uptoBulkEntry {H : Type} : Lit × DataW H → Nat
  | (.string bytes, d) => bytes.length + uptoBulk d + 1
  | (_, d) => uptoBulk d + 1
 end
def uptoSmall : (H : Type) → List (DataW H) → Bool := fun _ ds => decide (uptoBulkAll ds ≤ 1048576)
def OpenSpec.upto (s : _root_.Go.ChangeSpec) : _root_.Go.OpenSpec := { _root_.Go.OpenSpec.ofChange s with cond := some uptoSmall }

/-- 'laws.FnExactDirNew', WHERE WHAT IT READS IS OF BULK AT MOST 1048576: true; the input reads as it did. -/
def fnExactDirNewUptoRow : OpenClaim := { program := "ytfkjjehkngmgaaa", sum := "c4c1fc281458df44cedeab72d5912c2594bffba5cca7fd8b71e0d0b24342facf", func := "loop.example/g00235/laws.FnExactDirNew", spec := "fnExactDirNew", apart := false, narrowed := true }
def FnExactDirNewUptoSaid : Prop := fnExactDirNewUptoRow.holds Try.pinned (OpenSpec.upto fnExactDirNewSpec)

/-- 'laws.FnNewInodes', WHERE WHAT IT READS IS OF BULK AT MOST 1048576: true; the input reads as it did. -/
def fnNewInodesUptoRow : OpenClaim := { program := "ytfkjjehkngmgaaa", sum := "c4c1fc281458df44cedeab72d5912c2594bffba5cca7fd8b71e0d0b24342facf", func := "loop.example/g00235/laws.FnNewInodes", spec := "fnNewInodes", apart := false, narrowed := true }
def FnNewInodesUptoSaid : Prop := fnNewInodesUptoRow.holds Try.pinned (OpenSpec.upto fnNewInodesSpec)

/-- 'laws.FnExactReadBits', WHERE WHAT IT READS IS OF BULK AT MOST 1048576: true; the input reads as it did. -/
def fnExactReadBitsUptoRow : OpenClaim := { program := "ytfkjjehkngmgaaa", sum := "c4c1fc281458df44cedeab72d5912c2594bffba5cca7fd8b71e0d0b24342facf", func := "loop.example/g00235/laws.FnExactReadBits", spec := "fnExactReadBits", apart := false, narrowed := true }
def FnExactReadBitsUptoSaid : Prop := fnExactReadBitsUptoRow.holds Try.pinned (OpenSpec.upto fnExactReadBitsSpec)

/-- 'laws.FnExactInodeText', WHERE WHAT IT READS IS OF BULK AT MOST 1048576: true; the input reads as it did. -/
def fnExactInodeTextUptoRow : OpenClaim := { program := "ytfkjjehkngmgaaa", sum := "c4c1fc281458df44cedeab72d5912c2594bffba5cca7fd8b71e0d0b24342facf", func := "loop.example/g00235/laws.FnExactInodeText", spec := "fnExactInodeText", apart := false, narrowed := true }
def FnExactInodeTextUptoSaid : Prop := fnExactInodeTextUptoRow.holds Try.pinned (OpenSpec.upto fnExactInodeTextSpec)

/-- 'laws.FnTurned', WHERE WHAT IT READS IS OF BULK AT MOST 1048576: true; the input reads as it did. -/
def fnTurnedUptoRow : OpenClaim := { program := "ytfkjjehkngmgaaa", sum := "c4c1fc281458df44cedeab72d5912c2594bffba5cca7fd8b71e0d0b24342facf", func := "loop.example/g00235/laws.FnTurned", spec := "fnTurned", apart := false, narrowed := true }
def FnTurnedUptoSaid : Prop := fnTurnedUptoRow.holds Try.pinned (OpenSpec.upto fnTurnedSpec)

/-- 'laws.FnExactReadInode', WHERE WHAT IT READS IS OF BULK AT MOST 1048576: true; the input reads as it did. -/
def fnExactReadInodeUptoRow : OpenClaim := { program := "ytfkjjehkngmgaaa", sum := "c4c1fc281458df44cedeab72d5912c2594bffba5cca7fd8b71e0d0b24342facf", func := "loop.example/g00235/laws.FnExactReadInode", spec := "fnExactReadInode", apart := false, narrowed := true }
def FnExactReadInodeUptoSaid : Prop := fnExactReadInodeUptoRow.holds Try.pinned (OpenSpec.upto fnExactReadInodeSpec)

/-- 'laws.FnExactBitsText', WHERE WHAT IT READS IS OF BULK AT MOST 1048576: true; the input reads as it did. -/
def fnExactBitsTextUptoRow : OpenClaim := { program := "ytfkjjehkngmgaaa", sum := "c4c1fc281458df44cedeab72d5912c2594bffba5cca7fd8b71e0d0b24342facf", func := "loop.example/g00235/laws.FnExactBitsText", spec := "fnExactBitsText", apart := false, narrowed := true }
def FnExactBitsTextUptoSaid : Prop := fnExactBitsTextUptoRow.holds Try.pinned (OpenSpec.upto fnExactBitsTextSpec)

/-- 'laws.FnBits', WHERE WHAT IT READS IS OF BULK AT MOST 1048576: true; the input reads as it did. -/
def fnBitsUptoRow : OpenClaim := { program := "ytfkjjehkngmgaaa", sum := "c4c1fc281458df44cedeab72d5912c2594bffba5cca7fd8b71e0d0b24342facf", func := "loop.example/g00235/laws.FnBits", spec := "fnBits", apart := false, narrowed := true }
def FnBitsUptoSaid : Prop := fnBitsUptoRow.holds Try.pinned (OpenSpec.upto fnBitsSpec)

/-- 'laws.FnExactWriteUnit', WHERE WHAT IT READS IS OF BULK AT MOST 1048576: true; the input reads as it did. -/
def fnExactWriteUnitUptoRow : OpenClaim := { program := "ytfkjjehkngmgaaa", sum := "c4c1fc281458df44cedeab72d5912c2594bffba5cca7fd8b71e0d0b24342facf", func := "loop.example/g00235/laws.FnExactWriteUnit", spec := "fnExactWriteUnit", apart := false, narrowed := true }
def FnExactWriteUnitUptoSaid : Prop := fnExactWriteUnitUptoRow.holds Try.pinned (OpenSpec.upto fnExactWriteUnitSpec)

/-- 'laws.FnInodes', WHERE WHAT IT READS IS OF BULK AT MOST 1048576: true; the input reads as it did. -/
def fnInodesUptoRow : OpenClaim := { program := "ytfkjjehkngmgaaa", sum := "c4c1fc281458df44cedeab72d5912c2594bffba5cca7fd8b71e0d0b24342facf", func := "loop.example/g00235/laws.FnInodes", spec := "fnInodes", apart := false, narrowed := true }
def FnInodesUptoSaid : Prop := fnInodesUptoRow.holds Try.pinned (OpenSpec.upto fnInodesSpec)

/-- 'laws.FnExactDiskNew', WHERE WHAT IT READS IS OF BULK AT MOST 1048576: true; the input reads as it did. -/
def fnExactDiskNewUptoRow : OpenClaim := { program := "ytfkjjehkngmgaaa", sum := "c4c1fc281458df44cedeab72d5912c2594bffba5cca7fd8b71e0d0b24342facf", func := "loop.example/g00235/laws.FnExactDiskNew", spec := "fnExactDiskNew", apart := false, narrowed := true }
def FnExactDiskNewUptoSaid : Prop := fnExactDiskNewUptoRow.holds Try.pinned (OpenSpec.upto fnExactDiskNewSpec)

end Rows
end Go.Proofs.Ytfkjjehkngmgaaa
