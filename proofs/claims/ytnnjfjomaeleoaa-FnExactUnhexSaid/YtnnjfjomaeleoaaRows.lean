/-
  No cell of these rows narrows 'for every input' (looked for: loops, veiled, ifaces, maps, wideKeys, modest, calm, conditions, laid).
  DERIVED. THE GIVEN ROWS OF THIS SEAT. 12 by the template 'for every input the law returns true; each argument reads behind the call as it read before'; 0 by the template 'total and deterministic' (their statements: YtnnjfjomaeleoaaTotals.lean).
  GIVEN WITH THE SEED: the statements are not yours to turn. If you find one false, say at which input.
  Laid BY PROGRAM, IN A SANDBOX (cutbox-rows.mjs): the forced cells as the released guide's own fill.sh prints them over the translation 6be5bf86df5ae335… (all of the seat's roots in one cut). By AI agents, Wed Nov 11 2026. No macro, syntax, notation, axiom, sorry.
-/
import Derived.Test.YtnnjfjomaeleoaaChecked
import GoSem.Claim
import GoSem.ClaimJoined
import GoSem.ClaimMapViews
import Derived.JoinedTies
import Derived.KernelRfl
namespace Go.Proofs.Ytnnjfjomaeleoaa
/- THE CELL 'sum', in the pinned program and in every row, IS THE sha256 OF THE DUMP (.gsa) THAT YtnnjfjomaeleoaaProg.lean LOADS. Nothing in Lean hashes anything: it is a label: what it is worth is what the hold of that sum in a sandbox is worth. -/
noncomputable def Try.pinned : Pinned := { name := "ytnnjfjomaeleoaa", sum := "6be5bf86df5ae3356a66478bcd2f4ec65a214d3177ad93e537cf96d41710be73", checked := Try.checked }
namespace Rows
def none {H : Type} : Left H := { results := [], args := [] }

/-- 'laws.FnExactUnhex': WHATEVER THE INPUT: true; the input reads as it did. -/
def fnExactUnhexSpec : ChangeSpec := { name := "fnExactUnhex", fn := fun _ => fun
  | [d] => { results := [.lit (.bool true)], args := [d] }
  | _ => none }
def fnExactUnhexRow : OpenClaim := { program := "ytnnjfjomaeleoaa", sum := "6be5bf86df5ae3356a66478bcd2f4ec65a214d3177ad93e537cf96d41710be73", func := "loop.example/g00235/laws.FnExactUnhex", spec := "fnExactUnhex", inPlace := ["internal/bytealg.IndexByteString"], apart := false }
def FnExactUnhexSaid : Prop := fnExactUnhexRow.holds Try.pinned (OpenSpec.ofChange fnExactUnhexSpec)

/-- ITS FALSE NEIGHBOUR: 'it returns false'. Refute it at one input. -/
def fnExactUnhexWrong : ChangeSpec := { name := "fnExactUnhex", fn := fun _ => fun
  | [d] => { results := [.lit (.bool false)], args := [d] }
  | _ => none }
def FnExactUnhexWrongFalsely : Prop := fnExactUnhexRow.holds Try.pinned (OpenSpec.ofChange fnExactUnhexWrong)

/-- 'laws.FnExactReadVar': WHATEVER THE INPUT: true; the input reads as it did. -/
def fnExactReadVarSpec : ChangeSpec := { name := "fnExactReadVar", fn := fun _ => fun
  | [d1, d2] => { results := [.lit (.bool true)], args := [d1, d2] }
  | _ => none }
def fnExactReadVarRow : OpenClaim := { program := "ytnnjfjomaeleoaa", sum := "6be5bf86df5ae3356a66478bcd2f4ec65a214d3177ad93e537cf96d41710be73", func := "loop.example/g00235/laws.FnExactReadVar", spec := "fnExactReadVar", apart := false }
def FnExactReadVarSaid : Prop := fnExactReadVarRow.holds Try.pinned (OpenSpec.ofChange fnExactReadVarSpec)

/-- ITS FALSE NEIGHBOUR: 'it returns false'. Refute it at one input. -/
def fnExactReadVarWrong : ChangeSpec := { name := "fnExactReadVar", fn := fun _ => fun
  | [d1, d2] => { results := [.lit (.bool false)], args := [d1, d2] }
  | _ => none }
def FnExactReadVarWrongFalsely : Prop := fnExactReadVarRow.holds Try.pinned (OpenSpec.ofChange fnExactReadVarWrong)

/-- 'laws.FnFree': WHATEVER THE INPUT: true; the input reads as it did. -/
def fnFreeSpec : ChangeSpec := { name := "fnFree", fn := fun _ => fun
  | [d] => { results := [.lit (.bool true)], args := [d] }
  | _ => none }
def fnFreeRow : OpenClaim := { program := "ytnnjfjomaeleoaa", sum := "6be5bf86df5ae3356a66478bcd2f4ec65a214d3177ad93e537cf96d41710be73", func := "loop.example/g00235/laws.FnFree", spec := "fnFree", apart := false }
def FnFreeSaid : Prop := fnFreeRow.holds Try.pinned (OpenSpec.ofChange fnFreeSpec)

/-- ITS FALSE NEIGHBOUR: 'it returns false'. Refute it at one input. -/
def fnFreeWrong : ChangeSpec := { name := "fnFree", fn := fun _ => fun
  | [d] => { results := [.lit (.bool false)], args := [d] }
  | _ => none }
def FnFreeWrongFalsely : Prop := fnFreeRow.holds Try.pinned (OpenSpec.ofChange fnFreeWrong)

/-- 'laws.FnExactSealed': WHATEVER THE INPUT: true; the input reads as it did. -/
def fnExactSealedSpec : ChangeSpec := { name := "fnExactSealed", fn := fun _ => fun
  | [d] => { results := [.lit (.bool true)], args := [d] }
  | _ => none }
def fnExactSealedRow : OpenClaim := { program := "ytnnjfjomaeleoaa", sum := "6be5bf86df5ae3356a66478bcd2f4ec65a214d3177ad93e537cf96d41710be73", func := "loop.example/g00235/laws.FnExactSealed", spec := "fnExactSealed", apart := false }
def FnExactSealedSaid : Prop := fnExactSealedRow.holds Try.pinned (OpenSpec.ofChange fnExactSealedSpec)

/-- ITS FALSE NEIGHBOUR: 'it returns false'. Refute it at one input. -/
def fnExactSealedWrong : ChangeSpec := { name := "fnExactSealed", fn := fun _ => fun
  | [d] => { results := [.lit (.bool false)], args := [d] }
  | _ => none }
def FnExactSealedWrongFalsely : Prop := fnExactSealedRow.holds Try.pinned (OpenSpec.ofChange fnExactSealedWrong)

/-- 'laws.FnUnits': WHATEVER THE INPUT: true; the input reads as it did. -/
def fnUnitsSpec : ChangeSpec := { name := "fnUnits", fn := fun _ => fun
  | [d] => { results := [.lit (.bool true)], args := [d] }
  | _ => none }
def fnUnitsRow : OpenClaim := { program := "ytnnjfjomaeleoaa", sum := "6be5bf86df5ae3356a66478bcd2f4ec65a214d3177ad93e537cf96d41710be73", func := "loop.example/g00235/laws.FnUnits", spec := "fnUnits", apart := false }
def FnUnitsSaid : Prop := fnUnitsRow.holds Try.pinned (OpenSpec.ofChange fnUnitsSpec)

/-- ITS FALSE NEIGHBOUR: 'it returns false'. Refute it at one input. -/
def fnUnitsWrong : ChangeSpec := { name := "fnUnits", fn := fun _ => fun
  | [d] => { results := [.lit (.bool false)], args := [d] }
  | _ => none }
def FnUnitsWrongFalsely : Prop := fnUnitsRow.holds Try.pinned (OpenSpec.ofChange fnUnitsWrong)

/-- 'laws.FnExactBitsOk': WHATEVER THE INPUT: true; the input reads as it did. -/
def fnExactBitsOkSpec : ChangeSpec := { name := "fnExactBitsOk", fn := fun _ => fun
  | [d] => { results := [.lit (.bool true)], args := [d] }
  | _ => none }
def fnExactBitsOkRow : OpenClaim := { program := "ytnnjfjomaeleoaa", sum := "6be5bf86df5ae3356a66478bcd2f4ec65a214d3177ad93e537cf96d41710be73", func := "loop.example/g00235/laws.FnExactBitsOk", spec := "fnExactBitsOk", apart := false }
def FnExactBitsOkSaid : Prop := fnExactBitsOkRow.holds Try.pinned (OpenSpec.ofChange fnExactBitsOkSpec)

/-- ITS FALSE NEIGHBOUR: 'it returns false'. Refute it at one input. -/
def fnExactBitsOkWrong : ChangeSpec := { name := "fnExactBitsOk", fn := fun _ => fun
  | [d] => { results := [.lit (.bool false)], args := [d] }
  | _ => none }
def FnExactBitsOkWrongFalsely : Prop := fnExactBitsOkRow.holds Try.pinned (OpenSpec.ofChange fnExactBitsOkWrong)

/-- 'laws.FnExactReadShort': WHATEVER THE INPUT: true; the input reads as it did. -/
def fnExactReadShortSpec : ChangeSpec := { name := "fnExactReadShort", fn := fun _ => fun
  | [d1, d2] => { results := [.lit (.bool true)], args := [d1, d2] }
  | _ => none }
def fnExactReadShortRow : OpenClaim := { program := "ytnnjfjomaeleoaa", sum := "6be5bf86df5ae3356a66478bcd2f4ec65a214d3177ad93e537cf96d41710be73", func := "loop.example/g00235/laws.FnExactReadShort", spec := "fnExactReadShort", apart := false }
def FnExactReadShortSaid : Prop := fnExactReadShortRow.holds Try.pinned (OpenSpec.ofChange fnExactReadShortSpec)

/-- ITS FALSE NEIGHBOUR: 'it returns false'. Refute it at one input. -/
def fnExactReadShortWrong : ChangeSpec := { name := "fnExactReadShort", fn := fun _ => fun
  | [d1, d2] => { results := [.lit (.bool false)], args := [d1, d2] }
  | _ => none }
def FnExactReadShortWrongFalsely : Prop := fnExactReadShortRow.holds Try.pinned (OpenSpec.ofChange fnExactReadShortWrong)

/-- 'laws.FnExactBitsNew': WHATEVER THE INPUT: true; the input reads as it did. -/
def fnExactBitsNewSpec : ChangeSpec := { name := "fnExactBitsNew", fn := fun _ => fun
  | [] => { results := [.lit (.bool true)], args := [] }
  | _ => none }
def fnExactBitsNewRow : OpenClaim := { program := "ytnnjfjomaeleoaa", sum := "6be5bf86df5ae3356a66478bcd2f4ec65a214d3177ad93e537cf96d41710be73", func := "loop.example/g00235/laws.FnExactBitsNew", spec := "fnExactBitsNew", apart := false }
def FnExactBitsNewSaid : Prop := fnExactBitsNewRow.holds Try.pinned (OpenSpec.ofChange fnExactBitsNewSpec)

/-- ITS FALSE NEIGHBOUR: 'it returns false'. Refute it at one input. -/
def fnExactBitsNewWrong : ChangeSpec := { name := "fnExactBitsNew", fn := fun _ => fun
  | [] => { results := [.lit (.bool false)], args := [] }
  | _ => none }
def FnExactBitsNewWrongFalsely : Prop := fnExactBitsNewRow.holds Try.pinned (OpenSpec.ofChange fnExactBitsNewWrong)

/-- 'laws.FnExactUnsealed': WHATEVER THE INPUT: true; the input reads as it did. -/
def fnExactUnsealedSpec : ChangeSpec := { name := "fnExactUnsealed", fn := fun _ => fun
  | [d] => { results := [.lit (.bool true)], args := [d] }
  | _ => none }
def fnExactUnsealedRow : OpenClaim := { program := "ytnnjfjomaeleoaa", sum := "6be5bf86df5ae3356a66478bcd2f4ec65a214d3177ad93e537cf96d41710be73", func := "loop.example/g00235/laws.FnExactUnsealed", spec := "fnExactUnsealed", apart := false }
def FnExactUnsealedSaid : Prop := fnExactUnsealedRow.holds Try.pinned (OpenSpec.ofChange fnExactUnsealedSpec)

/-- ITS FALSE NEIGHBOUR: 'it returns false'. Refute it at one input. -/
def fnExactUnsealedWrong : ChangeSpec := { name := "fnExactUnsealed", fn := fun _ => fun
  | [d] => { results := [.lit (.bool false)], args := [d] }
  | _ => none }
def FnExactUnsealedWrongFalsely : Prop := fnExactUnsealedRow.holds Try.pinned (OpenSpec.ofChange fnExactUnsealedWrong)

/-- 'laws.FnExactInodeNew': WHATEVER THE INPUT: true; the input reads as it did. -/
def fnExactInodeNewSpec : ChangeSpec := { name := "fnExactInodeNew", fn := fun _ => fun
  | [d] => { results := [.lit (.bool true)], args := [d] }
  | _ => none }
def fnExactInodeNewRow : OpenClaim := { program := "ytnnjfjomaeleoaa", sum := "6be5bf86df5ae3356a66478bcd2f4ec65a214d3177ad93e537cf96d41710be73", func := "loop.example/g00235/laws.FnExactInodeNew", spec := "fnExactInodeNew", apart := false }
def FnExactInodeNewSaid : Prop := fnExactInodeNewRow.holds Try.pinned (OpenSpec.ofChange fnExactInodeNewSpec)

/-- ITS FALSE NEIGHBOUR: 'it returns false'. Refute it at one input. -/
def fnExactInodeNewWrong : ChangeSpec := { name := "fnExactInodeNew", fn := fun _ => fun
  | [d] => { results := [.lit (.bool false)], args := [d] }
  | _ => none }
def FnExactInodeNewWrongFalsely : Prop := fnExactInodeNewRow.holds Try.pinned (OpenSpec.ofChange fnExactInodeNewWrong)

/-- 'laws.FnExactDeviceOk': WHATEVER THE INPUT: true; the input reads as it did. -/
def fnExactDeviceOkSpec : ChangeSpec := { name := "fnExactDeviceOk", fn := fun _ => fun
  | [d] => { results := [.lit (.bool true)], args := [d] }
  | _ => none }
def fnExactDeviceOkRow : OpenClaim := { program := "ytnnjfjomaeleoaa", sum := "6be5bf86df5ae3356a66478bcd2f4ec65a214d3177ad93e537cf96d41710be73", func := "loop.example/g00235/laws.FnExactDeviceOk", spec := "fnExactDeviceOk", apart := false }
def FnExactDeviceOkSaid : Prop := fnExactDeviceOkRow.holds Try.pinned (OpenSpec.ofChange fnExactDeviceOkSpec)

/-- ITS FALSE NEIGHBOUR: 'it returns false'. Refute it at one input. -/
def fnExactDeviceOkWrong : ChangeSpec := { name := "fnExactDeviceOk", fn := fun _ => fun
  | [d] => { results := [.lit (.bool false)], args := [d] }
  | _ => none }
def FnExactDeviceOkWrongFalsely : Prop := fnExactDeviceOkRow.holds Try.pinned (OpenSpec.ofChange fnExactDeviceOkWrong)

/-- 'laws.FnExactInodeOk': WHATEVER THE INPUT: true; the input reads as it did. -/
def fnExactInodeOkSpec : ChangeSpec := { name := "fnExactInodeOk", fn := fun _ => fun
  | [d] => { results := [.lit (.bool true)], args := [d] }
  | _ => none }
def fnExactInodeOkRow : OpenClaim := { program := "ytnnjfjomaeleoaa", sum := "6be5bf86df5ae3356a66478bcd2f4ec65a214d3177ad93e537cf96d41710be73", func := "loop.example/g00235/laws.FnExactInodeOk", spec := "fnExactInodeOk", apart := false }
def FnExactInodeOkSaid : Prop := fnExactInodeOkRow.holds Try.pinned (OpenSpec.ofChange fnExactInodeOkSpec)

/-- ITS FALSE NEIGHBOUR: 'it returns false'. Refute it at one input. -/
def fnExactInodeOkWrong : ChangeSpec := { name := "fnExactInodeOk", fn := fun _ => fun
  | [d] => { results := [.lit (.bool false)], args := [d] }
  | _ => none }
def FnExactInodeOkWrongFalsely : Prop := fnExactInodeOkRow.holds Try.pinned (OpenSpec.ofChange fnExactInodeOkWrong)

/- THE SECOND FORM. 'bulk': how many values and letters a reading holds, each counted each time it is reached (what is shared counts as often as it is met; a slice's spare places count too). A statement '..UptoSaid' is the law's where the arguments, and the package variables that the reading takes, are together of bulk at most 1048576: NARROWER than '..Said'. Prove '..Said' where nothing that the law and all that it calls make is longer than what came in: it says more and counts as full. Else prove '..UptoSaid'. A law counts once. -/
mutual
def uptoBulk {H : Type} : DataW H → Nat
  | .lit (.string bytes) => bytes.length + 1
  | .lit _ => 1
  | .nil => 1
  | .ptr d => uptoBulk d + 1
  | .slice elems spare => uptoBulkAll elems + uptoBulkAll spare + 1
  | .agg parts => uptoBulkAll parts + 1
  | .iface _ d => uptoBulk d + 1
  | .map entries => uptoBulkEntries entries + 1
  | .held _ => 1
def uptoBulkAll {H : Type} : List (DataW H) → Nat
  | [] => 0
  | d :: r => uptoBulk d + uptoBulkAll r
def uptoBulkEntries {H : Type} : List (Lit × DataW H) → Nat
  | [] => 0
  | x :: r => uptoBulkEntry x + uptoBulkEntries r
def uptoBulkEntry {H : Type} : Lit × DataW H → Nat
  | (.string bytes, d) => bytes.length + uptoBulk d + 1
  | (_, d) => uptoBulk d + 1
 end
def uptoSmall : (H : Type) → List (DataW H) → Bool := fun _ ds => decide (uptoBulkAll ds ≤ 1048576)
def OpenSpec.upto (s : _root_.Go.ChangeSpec) : _root_.Go.OpenSpec := { _root_.Go.OpenSpec.ofChange s with cond := some uptoSmall }

/-- 'laws.FnExactUnhex', WHERE WHAT IT READS IS OF BULK AT MOST 1048576: true; the input reads as it did. -/
def fnExactUnhexUptoRow : OpenClaim := { program := "ytnnjfjomaeleoaa", sum := "6be5bf86df5ae3356a66478bcd2f4ec65a214d3177ad93e537cf96d41710be73", func := "loop.example/g00235/laws.FnExactUnhex", spec := "fnExactUnhex", inPlace := ["internal/bytealg.IndexByteString"], apart := false, narrowed := true }
def FnExactUnhexUptoSaid : Prop := fnExactUnhexUptoRow.holds Try.pinned (OpenSpec.upto fnExactUnhexSpec)

/-- 'laws.FnExactReadVar', WHERE WHAT IT READS IS OF BULK AT MOST 1048576: true; the input reads as it did. -/
def fnExactReadVarUptoRow : OpenClaim := { program := "ytnnjfjomaeleoaa", sum := "6be5bf86df5ae3356a66478bcd2f4ec65a214d3177ad93e537cf96d41710be73", func := "loop.example/g00235/laws.FnExactReadVar", spec := "fnExactReadVar", apart := false, narrowed := true }
def FnExactReadVarUptoSaid : Prop := fnExactReadVarUptoRow.holds Try.pinned (OpenSpec.upto fnExactReadVarSpec)

/-- 'laws.FnFree', WHERE WHAT IT READS IS OF BULK AT MOST 1048576: true; the input reads as it did. -/
def fnFreeUptoRow : OpenClaim := { program := "ytnnjfjomaeleoaa", sum := "6be5bf86df5ae3356a66478bcd2f4ec65a214d3177ad93e537cf96d41710be73", func := "loop.example/g00235/laws.FnFree", spec := "fnFree", apart := false, narrowed := true }
def FnFreeUptoSaid : Prop := fnFreeUptoRow.holds Try.pinned (OpenSpec.upto fnFreeSpec)

/-- 'laws.FnExactSealed', WHERE WHAT IT READS IS OF BULK AT MOST 1048576: true; the input reads as it did. -/
def fnExactSealedUptoRow : OpenClaim := { program := "ytnnjfjomaeleoaa", sum := "6be5bf86df5ae3356a66478bcd2f4ec65a214d3177ad93e537cf96d41710be73", func := "loop.example/g00235/laws.FnExactSealed", spec := "fnExactSealed", apart := false, narrowed := true }
def FnExactSealedUptoSaid : Prop := fnExactSealedUptoRow.holds Try.pinned (OpenSpec.upto fnExactSealedSpec)

/-- 'laws.FnUnits', WHERE WHAT IT READS IS OF BULK AT MOST 1048576: true; the input reads as it did. -/
def fnUnitsUptoRow : OpenClaim := { program := "ytnnjfjomaeleoaa", sum := "6be5bf86df5ae3356a66478bcd2f4ec65a214d3177ad93e537cf96d41710be73", func := "loop.example/g00235/laws.FnUnits", spec := "fnUnits", apart := false, narrowed := true }
def FnUnitsUptoSaid : Prop := fnUnitsUptoRow.holds Try.pinned (OpenSpec.upto fnUnitsSpec)

/-- 'laws.FnExactBitsOk', WHERE WHAT IT READS IS OF BULK AT MOST 1048576: true; the input reads as it did. -/
def fnExactBitsOkUptoRow : OpenClaim := { program := "ytnnjfjomaeleoaa", sum := "6be5bf86df5ae3356a66478bcd2f4ec65a214d3177ad93e537cf96d41710be73", func := "loop.example/g00235/laws.FnExactBitsOk", spec := "fnExactBitsOk", apart := false, narrowed := true }
def FnExactBitsOkUptoSaid : Prop := fnExactBitsOkUptoRow.holds Try.pinned (OpenSpec.upto fnExactBitsOkSpec)

/-- 'laws.FnExactReadShort', WHERE WHAT IT READS IS OF BULK AT MOST 1048576: true; the input reads as it did. -/
def fnExactReadShortUptoRow : OpenClaim := { program := "ytnnjfjomaeleoaa", sum := "6be5bf86df5ae3356a66478bcd2f4ec65a214d3177ad93e537cf96d41710be73", func := "loop.example/g00235/laws.FnExactReadShort", spec := "fnExactReadShort", apart := false, narrowed := true }
def FnExactReadShortUptoSaid : Prop := fnExactReadShortUptoRow.holds Try.pinned (OpenSpec.upto fnExactReadShortSpec)

/-- 'laws.FnExactBitsNew', WHERE WHAT IT READS IS OF BULK AT MOST 1048576: true; the input reads as it did. -/
def fnExactBitsNewUptoRow : OpenClaim := { program := "ytnnjfjomaeleoaa", sum := "6be5bf86df5ae3356a66478bcd2f4ec65a214d3177ad93e537cf96d41710be73", func := "loop.example/g00235/laws.FnExactBitsNew", spec := "fnExactBitsNew", apart := false, narrowed := true }
def FnExactBitsNewUptoSaid : Prop := fnExactBitsNewUptoRow.holds Try.pinned (OpenSpec.upto fnExactBitsNewSpec)

/-- 'laws.FnExactUnsealed', WHERE WHAT IT READS IS OF BULK AT MOST 1048576: true; the input reads as it did. -/
def fnExactUnsealedUptoRow : OpenClaim := { program := "ytnnjfjomaeleoaa", sum := "6be5bf86df5ae3356a66478bcd2f4ec65a214d3177ad93e537cf96d41710be73", func := "loop.example/g00235/laws.FnExactUnsealed", spec := "fnExactUnsealed", apart := false, narrowed := true }
def FnExactUnsealedUptoSaid : Prop := fnExactUnsealedUptoRow.holds Try.pinned (OpenSpec.upto fnExactUnsealedSpec)

/-- 'laws.FnExactInodeNew', WHERE WHAT IT READS IS OF BULK AT MOST 1048576: true; the input reads as it did. -/
def fnExactInodeNewUptoRow : OpenClaim := { program := "ytnnjfjomaeleoaa", sum := "6be5bf86df5ae3356a66478bcd2f4ec65a214d3177ad93e537cf96d41710be73", func := "loop.example/g00235/laws.FnExactInodeNew", spec := "fnExactInodeNew", apart := false, narrowed := true }
def FnExactInodeNewUptoSaid : Prop := fnExactInodeNewUptoRow.holds Try.pinned (OpenSpec.upto fnExactInodeNewSpec)

/-- 'laws.FnExactDeviceOk', WHERE WHAT IT READS IS OF BULK AT MOST 1048576: true; the input reads as it did. -/
def fnExactDeviceOkUptoRow : OpenClaim := { program := "ytnnjfjomaeleoaa", sum := "6be5bf86df5ae3356a66478bcd2f4ec65a214d3177ad93e537cf96d41710be73", func := "loop.example/g00235/laws.FnExactDeviceOk", spec := "fnExactDeviceOk", apart := false, narrowed := true }
def FnExactDeviceOkUptoSaid : Prop := fnExactDeviceOkUptoRow.holds Try.pinned (OpenSpec.upto fnExactDeviceOkSpec)

/-- 'laws.FnExactInodeOk', WHERE WHAT IT READS IS OF BULK AT MOST 1048576: true; the input reads as it did. -/
def fnExactInodeOkUptoRow : OpenClaim := { program := "ytnnjfjomaeleoaa", sum := "6be5bf86df5ae3356a66478bcd2f4ec65a214d3177ad93e537cf96d41710be73", func := "loop.example/g00235/laws.FnExactInodeOk", spec := "fnExactInodeOk", apart := false, narrowed := true }
def FnExactInodeOkUptoSaid : Prop := fnExactInodeOkUptoRow.holds Try.pinned (OpenSpec.upto fnExactInodeOkSpec)

end Rows
end Go.Proofs.Ytnnjfjomaeleoaa
