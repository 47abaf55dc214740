/-
  No cell of these rows narrows 'for every input' (looked for: loops, veiled, ifaces, maps, wideKeys, modest, calm, conditions, laid).
  DERIVED. THE GIVEN ROWS OF THIS SEAT. 11 by the template 'for every input the law returns true; each argument reads behind the call as it read before'; 0 by the template 'total and deterministic' (their statements: YtdnbpapolckklaaTotals.lean).
  GIVEN WITH THE SEED: the statements are not yours to turn. If you find one false, say at which input.
  Laid BY PROGRAM, IN A SANDBOX (cutbox-rows.mjs): the forced cells as the released guide's own fill.sh prints them over the translation 1e062b598add8dc6… (all of the seat's roots in one cut). By AI agents, Wed Nov 11 2026. No macro, syntax, notation, axiom, sorry.
-/
import Derived.Test.YtdnbpapolckklaaChecked
import GoSem.Claim
import GoSem.ClaimJoined
import GoSem.ClaimMapViews
import Derived.JoinedTies
import Derived.KernelRfl
namespace Go.Proofs.Ytdnbpapolckklaa
/- THE CELL 'sum', in the pinned program and in every row, IS THE sha256 OF THE DUMP (.gsa) THAT YtdnbpapolckklaaProg.lean LOADS. Nothing in Lean hashes anything: it is a label: what it is worth is what the hold of that sum in a sandbox is worth. -/
noncomputable def Try.pinned : Pinned := { name := "ytdnbpapolckklaa", sum := "1e062b598add8dc6aee269b8fab1ff3152dd35fb138e21cdfb2a0e8c158afc3f", checked := Try.checked }
namespace Rows
def none {H : Type} : Left H := { results := [], args := [] }

/-- 'laws.FnExactDeviceOf': WHATEVER THE INPUT: true; the input reads as it did. -/
def fnExactDeviceOfSpec : ChangeSpec := { name := "fnExactDeviceOf", fn := fun _ => fun
  | [d] => { results := [.lit (.bool true)], args := [d] }
  | _ => none }
def fnExactDeviceOfRow : OpenClaim := { program := "ytdnbpapolckklaa", sum := "1e062b598add8dc6aee269b8fab1ff3152dd35fb138e21cdfb2a0e8c158afc3f", func := "loop.example/g00235/laws.FnExactDeviceOf", spec := "fnExactDeviceOf", unfollowed := true, recurses := true, apart := false }
def FnExactDeviceOfSaid : Prop := fnExactDeviceOfRow.holds Try.pinned (OpenSpec.ofChange fnExactDeviceOfSpec)

/-- ITS FALSE NEIGHBOUR: 'it returns false'. Refute it at one input. -/
def fnExactDeviceOfWrong : ChangeSpec := { name := "fnExactDeviceOf", fn := fun _ => fun
  | [d] => { results := [.lit (.bool false)], args := [d] }
  | _ => none }
def FnExactDeviceOfWrongFalsely : Prop := fnExactDeviceOfRow.holds Try.pinned (OpenSpec.ofChange fnExactDeviceOfWrong)

/-- 'laws.FnExactDiskOf': WHATEVER THE INPUT: true; the input reads as it did. -/
def fnExactDiskOfSpec : ChangeSpec := { name := "fnExactDiskOf", fn := fun _ => fun
  | [d] => { results := [.lit (.bool true)], args := [d] }
  | _ => none }
def fnExactDiskOfRow : OpenClaim := { program := "ytdnbpapolckklaa", sum := "1e062b598add8dc6aee269b8fab1ff3152dd35fb138e21cdfb2a0e8c158afc3f", func := "loop.example/g00235/laws.FnExactDiskOf", spec := "fnExactDiskOf", unfollowed := true, recurses := true, apart := false }
def FnExactDiskOfSaid : Prop := fnExactDiskOfRow.holds Try.pinned (OpenSpec.ofChange fnExactDiskOfSpec)

/-- ITS FALSE NEIGHBOUR: 'it returns false'. Refute it at one input. -/
def fnExactDiskOfWrong : ChangeSpec := { name := "fnExactDiskOf", fn := fun _ => fun
  | [d] => { results := [.lit (.bool false)], args := [d] }
  | _ => none }
def FnExactDiskOfWrongFalsely : Prop := fnExactDiskOfRow.holds Try.pinned (OpenSpec.ofChange fnExactDiskOfWrong)

/-- 'laws.FnExactSlotOf': WHATEVER THE INPUT: true; the input reads as it did. -/
def fnExactSlotOfSpec : ChangeSpec := { name := "fnExactSlotOf", fn := fun _ => fun
  | [d1, d2] => { results := [.lit (.bool true)], args := [d1, d2] }
  | _ => none }
def fnExactSlotOfRow : OpenClaim := { program := "ytdnbpapolckklaa", sum := "1e062b598add8dc6aee269b8fab1ff3152dd35fb138e21cdfb2a0e8c158afc3f", func := "loop.example/g00235/laws.FnExactSlotOf", spec := "fnExactSlotOf", unfollowed := true, recurses := true, apart := false }
def FnExactSlotOfSaid : Prop := fnExactSlotOfRow.holds Try.pinned (OpenSpec.ofChange fnExactSlotOfSpec)

/-- ITS FALSE NEIGHBOUR: 'it returns false'. Refute it at one input. -/
def fnExactSlotOfWrong : ChangeSpec := { name := "fnExactSlotOf", fn := fun _ => fun
  | [d1, d2] => { results := [.lit (.bool false)], args := [d1, d2] }
  | _ => none }
def FnExactSlotOfWrongFalsely : Prop := fnExactSlotOfRow.holds Try.pinned (OpenSpec.ofChange fnExactSlotOfWrong)

/-- 'laws.FnExactBlockOk': WHATEVER THE INPUT: true; the input reads as it did. -/
def fnExactBlockOkSpec : ChangeSpec := { name := "fnExactBlockOk", fn := fun _ => fun
  | [d] => { results := [.lit (.bool true)], args := [d] }
  | _ => none }
def fnExactBlockOkRow : OpenClaim := { program := "ytdnbpapolckklaa", sum := "1e062b598add8dc6aee269b8fab1ff3152dd35fb138e21cdfb2a0e8c158afc3f", func := "loop.example/g00235/laws.FnExactBlockOk", spec := "fnExactBlockOk", unfollowed := true, recurses := true, apart := false }
def FnExactBlockOkSaid : Prop := fnExactBlockOkRow.holds Try.pinned (OpenSpec.ofChange fnExactBlockOkSpec)

/-- ITS FALSE NEIGHBOUR: 'it returns false'. Refute it at one input. -/
def fnExactBlockOkWrong : ChangeSpec := { name := "fnExactBlockOk", fn := fun _ => fun
  | [d] => { results := [.lit (.bool false)], args := [d] }
  | _ => none }
def FnExactBlockOkWrongFalsely : Prop := fnExactBlockOkRow.holds Try.pinned (OpenSpec.ofChange fnExactBlockOkWrong)

/-- 'laws.FnSlots': WHATEVER THE INPUT: true; the input reads as it did. -/
def fnSlotsSpec : ChangeSpec := { name := "fnSlots", fn := fun _ => fun
  | [d] => { results := [.lit (.bool true)], args := [d] }
  | _ => none }
def fnSlotsRow : OpenClaim := { program := "ytdnbpapolckklaa", sum := "1e062b598add8dc6aee269b8fab1ff3152dd35fb138e21cdfb2a0e8c158afc3f", func := "loop.example/g00235/laws.FnSlots", spec := "fnSlots", unfollowed := true, recurses := true, apart := false }
def FnSlotsSaid : Prop := fnSlotsRow.holds Try.pinned (OpenSpec.ofChange fnSlotsSpec)

/-- ITS FALSE NEIGHBOUR: 'it returns false'. Refute it at one input. -/
def fnSlotsWrong : ChangeSpec := { name := "fnSlots", fn := fun _ => fun
  | [d] => { results := [.lit (.bool false)], args := [d] }
  | _ => none }
def FnSlotsWrongFalsely : Prop := fnSlotsRow.holds Try.pinned (OpenSpec.ofChange fnSlotsWrong)

/-- 'laws.FnExactBlockText': WHATEVER THE INPUT: true; the input reads as it did. -/
def fnExactBlockTextSpec : ChangeSpec := { name := "fnExactBlockText", fn := fun _ => fun
  | [d] => { results := [.lit (.bool true)], args := [d] }
  | _ => none }
def fnExactBlockTextRow : OpenClaim := { program := "ytdnbpapolckklaa", sum := "1e062b598add8dc6aee269b8fab1ff3152dd35fb138e21cdfb2a0e8c158afc3f", func := "loop.example/g00235/laws.FnExactBlockText", spec := "fnExactBlockText", unfollowed := true, recurses := true, apart := false }
def FnExactBlockTextSaid : Prop := fnExactBlockTextRow.holds Try.pinned (OpenSpec.ofChange fnExactBlockTextSpec)

/-- ITS FALSE NEIGHBOUR: 'it returns false'. Refute it at one input. -/
def fnExactBlockTextWrong : ChangeSpec := { name := "fnExactBlockText", fn := fun _ => fun
  | [d] => { results := [.lit (.bool false)], args := [d] }
  | _ => none }
def FnExactBlockTextWrongFalsely : Prop := fnExactBlockTextRow.holds Try.pinned (OpenSpec.ofChange fnExactBlockTextWrong)

/-- 'laws.FnExactReadBlock': WHATEVER THE INPUT: true; the input reads as it did. -/
def fnExactReadBlockSpec : ChangeSpec := { name := "fnExactReadBlock", fn := fun _ => fun
  | [d] => { results := [.lit (.bool true)], args := [d] }
  | _ => none }
def fnExactReadBlockRow : OpenClaim := { program := "ytdnbpapolckklaa", sum := "1e062b598add8dc6aee269b8fab1ff3152dd35fb138e21cdfb2a0e8c158afc3f", func := "loop.example/g00235/laws.FnExactReadBlock", spec := "fnExactReadBlock", unfollowed := true, recurses := true, apart := false }
def FnExactReadBlockSaid : Prop := fnExactReadBlockRow.holds Try.pinned (OpenSpec.ofChange fnExactReadBlockSpec)

/-- ITS FALSE NEIGHBOUR: 'it returns false'. Refute it at one input. -/
def fnExactReadBlockWrong : ChangeSpec := { name := "fnExactReadBlock", fn := fun _ => fun
  | [d] => { results := [.lit (.bool false)], args := [d] }
  | _ => none }
def FnExactReadBlockWrongFalsely : Prop := fnExactReadBlockRow.holds Try.pinned (OpenSpec.ofChange fnExactReadBlockWrong)

/-- 'laws.FnBlocks': WHATEVER THE INPUT: true; the input reads as it did. -/
def fnBlocksSpec : ChangeSpec := { name := "fnBlocks", fn := fun _ => fun
  | [d] => { results := [.lit (.bool true)], args := [d] }
  | _ => none }
def fnBlocksRow : OpenClaim := { program := "ytdnbpapolckklaa", sum := "1e062b598add8dc6aee269b8fab1ff3152dd35fb138e21cdfb2a0e8c158afc3f", func := "loop.example/g00235/laws.FnBlocks", spec := "fnBlocks", unfollowed := true, recurses := true, apart := false }
def FnBlocksSaid : Prop := fnBlocksRow.holds Try.pinned (OpenSpec.ofChange fnBlocksSpec)

/-- ITS FALSE NEIGHBOUR: 'it returns false'. Refute it at one input. -/
def fnBlocksWrong : ChangeSpec := { name := "fnBlocks", fn := fun _ => fun
  | [d] => { results := [.lit (.bool false)], args := [d] }
  | _ => none }
def FnBlocksWrongFalsely : Prop := fnBlocksRow.holds Try.pinned (OpenSpec.ofChange fnBlocksWrong)

/-- 'laws.FnExactSameDisk': WHATEVER THE INPUT: true; the input reads as it did. -/
def fnExactSameDiskSpec : ChangeSpec := { name := "fnExactSameDisk", fn := fun _ => fun
  | [d1, d2] => { results := [.lit (.bool true)], args := [d1, d2] }
  | _ => none }
def fnExactSameDiskRow : OpenClaim := { program := "ytdnbpapolckklaa", sum := "1e062b598add8dc6aee269b8fab1ff3152dd35fb138e21cdfb2a0e8c158afc3f", func := "loop.example/g00235/laws.FnExactSameDisk", spec := "fnExactSameDisk", unfollowed := true, recurses := true, apart := false }
def FnExactSameDiskSaid : Prop := fnExactSameDiskRow.holds Try.pinned (OpenSpec.ofChange fnExactSameDiskSpec)

/-- ITS FALSE NEIGHBOUR: 'it returns false'. Refute it at one input. -/
def fnExactSameDiskWrong : ChangeSpec := { name := "fnExactSameDisk", fn := fun _ => fun
  | [d1, d2] => { results := [.lit (.bool false)], args := [d1, d2] }
  | _ => none }
def FnExactSameDiskWrongFalsely : Prop := fnExactSameDiskRow.holds Try.pinned (OpenSpec.ofChange fnExactSameDiskWrong)

/-- 'laws.FnExactDiskOk': WHATEVER THE INPUT: true; the input reads as it did. -/
def fnExactDiskOkSpec : ChangeSpec := { name := "fnExactDiskOk", fn := fun _ => fun
  | [d] => { results := [.lit (.bool true)], args := [d] }
  | _ => none }
def fnExactDiskOkRow : OpenClaim := { program := "ytdnbpapolckklaa", sum := "1e062b598add8dc6aee269b8fab1ff3152dd35fb138e21cdfb2a0e8c158afc3f", func := "loop.example/g00235/laws.FnExactDiskOk", spec := "fnExactDiskOk", unfollowed := true, recurses := true, apart := false }
def FnExactDiskOkSaid : Prop := fnExactDiskOkRow.holds Try.pinned (OpenSpec.ofChange fnExactDiskOkSpec)

/-- ITS FALSE NEIGHBOUR: 'it returns false'. Refute it at one input. -/
def fnExactDiskOkWrong : ChangeSpec := { name := "fnExactDiskOk", fn := fun _ => fun
  | [d] => { results := [.lit (.bool false)], args := [d] }
  | _ => none }
def FnExactDiskOkWrongFalsely : Prop := fnExactDiskOkRow.holds Try.pinned (OpenSpec.ofChange fnExactDiskOkWrong)

/-- 'laws.FnExactUnitText': WHATEVER THE INPUT: true; the input reads as it did. -/
def fnExactUnitTextSpec : ChangeSpec := { name := "fnExactUnitText", fn := fun _ => fun
  | [d1, d2] => { results := [.lit (.bool true)], args := [d1, d2] }
  | _ => none }
def fnExactUnitTextRow : OpenClaim := { program := "ytdnbpapolckklaa", sum := "1e062b598add8dc6aee269b8fab1ff3152dd35fb138e21cdfb2a0e8c158afc3f", func := "loop.example/g00235/laws.FnExactUnitText", spec := "fnExactUnitText", unfollowed := true, recurses := true, apart := false }
def FnExactUnitTextSaid : Prop := fnExactUnitTextRow.holds Try.pinned (OpenSpec.ofChange fnExactUnitTextSpec)

/-- ITS FALSE NEIGHBOUR: 'it returns false'. Refute it at one input. -/
def fnExactUnitTextWrong : ChangeSpec := { name := "fnExactUnitText", fn := fun _ => fun
  | [d1, d2] => { results := [.lit (.bool false)], args := [d1, d2] }
  | _ => none }
def FnExactUnitTextWrongFalsely : Prop := fnExactUnitTextRow.holds Try.pinned (OpenSpec.ofChange fnExactUnitTextWrong)

/- THE SECOND FORM. 'bulk': how many values and letters a reading holds, each counted each time it is reached (what is shared counts as often as it is met; a slice's spare places count too). A statement '..UptoSaid' is the law's where the arguments, and the package variables that the reading takes, are together of bulk at most 1048576: NARROWER than '..Said'. Prove '..Said' where nothing that the law and all that it calls make is longer than what came in: it says more and counts as full. Else prove '..UptoSaid'. A law counts once. -/
mutual
def uptoBulk {H : Type} : DataW H → Nat
  | .lit (.string bytes) => bytes.length + 1
  | .lit _ => 1
  | .nil => 1
  | .ptr d => uptoBulk d + 1
  | .slice elems spare => uptoBulkAll elems + uptoBulkAll spare + 1
  | .agg parts => uptoBulkAll parts + 1
  | .iface _ d => uptoBulk d + 1
  | .map entries => uptoBulkEntries entries + 1
  | .held _ => 1
def uptoBulkAll {H : Type} : List (DataW H) → Nat
  | [] => 0
  | d :: r => uptoBulk d + uptoBulkAll r
def uptoBulkEntries {H : Type} : List (Lit × DataW H) → Nat
  | [] => 0
  | x :: r => uptoBulkEntry x + uptoBulkEntries r
def uptoBulkEntry {H : Type} : Lit × DataW H → Nat
  | (.string bytes, d) => bytes.length + uptoBulk d + 1
  | (_, d) => uptoBulk d + 1
 end
def uptoSmall : (H : Type) → List (DataW H) → Bool := fun _ ds => decide (uptoBulkAll ds ≤ 1048576)
def OpenSpec.upto (s : _root_.Go.ChangeSpec) : _root_.Go.OpenSpec := { _root_.Go.OpenSpec.ofChange s with cond := some uptoSmall }

/-- 'laws.FnExactDeviceOf', WHERE WHAT IT READS IS OF BULK AT MOST 1048576: true; the input reads as it did. -/
def fnExactDeviceOfUptoRow : OpenClaim := { program := "ytdnbpapolckklaa", sum := "1e062b598add8dc6aee269b8fab1ff3152dd35fb138e21cdfb2a0e8c158afc3f", func := "loop.example/g00235/laws.FnExactDeviceOf", spec := "fnExactDeviceOf", unfollowed := true, recurses := true, apart := false, narrowed := true }
def FnExactDeviceOfUptoSaid : Prop := fnExactDeviceOfUptoRow.holds Try.pinned (OpenSpec.upto fnExactDeviceOfSpec)

/-- 'laws.FnExactDiskOf', WHERE WHAT IT READS IS OF BULK AT MOST 1048576: true; the input reads as it did. -/
def fnExactDiskOfUptoRow : OpenClaim := { program := "ytdnbpapolckklaa", sum := "1e062b598add8dc6aee269b8fab1ff3152dd35fb138e21cdfb2a0e8c158afc3f", func := "loop.example/g00235/laws.FnExactDiskOf", spec := "fnExactDiskOf", unfollowed := true, recurses := true, apart := false, narrowed := true }
def FnExactDiskOfUptoSaid : Prop := fnExactDiskOfUptoRow.holds Try.pinned (OpenSpec.upto fnExactDiskOfSpec)

/-- 'laws.FnExactSlotOf', WHERE WHAT IT READS IS OF BULK AT MOST 1048576: true; the input reads as it did. -/
def fnExactSlotOfUptoRow : OpenClaim := { program := "ytdnbpapolckklaa", sum := "1e062b598add8dc6aee269b8fab1ff3152dd35fb138e21cdfb2a0e8c158afc3f", func := "loop.example/g00235/laws.FnExactSlotOf", spec := "fnExactSlotOf", unfollowed := true, recurses := true, apart := false, narrowed := true }
def FnExactSlotOfUptoSaid : Prop := fnExactSlotOfUptoRow.holds Try.pinned (OpenSpec.upto fnExactSlotOfSpec)

/-- 'laws.FnExactBlockOk', WHERE WHAT IT READS IS OF BULK AT MOST 1048576: true; the input reads as it did. -/
def fnExactBlockOkUptoRow : OpenClaim := { program := "ytdnbpapolckklaa", sum := "1e062b598add8dc6aee269b8fab1ff3152dd35fb138e21cdfb2a0e8c158afc3f", func := "loop.example/g00235/laws.FnExactBlockOk", spec := "fnExactBlockOk", unfollowed := true, recurses := true, apart := false, narrowed := true }
def FnExactBlockOkUptoSaid : Prop := fnExactBlockOkUptoRow.holds Try.pinned (OpenSpec.upto fnExactBlockOkSpec)

/-- 'laws.FnSlots', WHERE WHAT IT READS IS OF BULK AT MOST 1048576: true; the input reads as it did. -/
def fnSlotsUptoRow : OpenClaim := { program := "ytdnbpapolckklaa", sum := "1e062b598add8dc6aee269b8fab1ff3152dd35fb138e21cdfb2a0e8c158afc3f", func := "loop.example/g00235/laws.FnSlots", spec := "fnSlots", unfollowed := true, recurses := true, apart := false, narrowed := true }
def FnSlotsUptoSaid : Prop := fnSlotsUptoRow.holds Try.pinned (OpenSpec.upto fnSlotsSpec)

/-- 'laws.FnExactBlockText', WHERE WHAT IT READS IS OF BULK AT MOST 1048576: true; the input reads as it did. -/
def fnExactBlockTextUptoRow : OpenClaim := { program := "ytdnbpapolckklaa", sum := "1e062b598add8dc6aee269b8fab1ff3152dd35fb138e21cdfb2a0e8c158afc3f", func := "loop.example/g00235/laws.FnExactBlockText", spec := "fnExactBlockText", unfollowed := true, recurses := true, apart := false, narrowed := true }
def FnExactBlockTextUptoSaid : Prop := fnExactBlockTextUptoRow.holds Try.pinned (OpenSpec.upto fnExactBlockTextSpec)

/-- 'laws.FnExactReadBlock', WHERE WHAT IT READS IS OF BULK AT MOST 1048576: true; the input reads as it did. -/
def fnExactReadBlockUptoRow : OpenClaim := { program := "ytdnbpapolckklaa", sum := "1e062b598add8dc6aee269b8fab1ff3152dd35fb138e21cdfb2a0e8c158afc3f", func := "loop.example/g00235/laws.FnExactReadBlock", spec := "fnExactReadBlock", unfollowed := true, recurses := true, apart := false, narrowed := true }
def FnExactReadBlockUptoSaid : Prop := fnExactReadBlockUptoRow.holds Try.pinned (OpenSpec.upto fnExactReadBlockSpec)

/-- 'laws.FnBlocks', WHERE WHAT IT READS IS OF BULK AT MOST 1048576: true; the input reads as it did. -/
def fnBlocksUptoRow : OpenClaim := { program := "ytdnbpapolckklaa", sum := "1e062b598add8dc6aee269b8fab1ff3152dd35fb138e21cdfb2a0e8c158afc3f", func := "loop.example/g00235/laws.FnBlocks", spec := "fnBlocks", unfollowed := true, recurses := true, apart := false, narrowed := true }
def FnBlocksUptoSaid : Prop := fnBlocksUptoRow.holds Try.pinned (OpenSpec.upto fnBlocksSpec)

/-- 'laws.FnExactSameDisk', WHERE WHAT IT READS IS OF BULK AT MOST 1048576: true; the input reads as it did. -/
def fnExactSameDiskUptoRow : OpenClaim := { program := "ytdnbpapolckklaa", sum := "1e062b598add8dc6aee269b8fab1ff3152dd35fb138e21cdfb2a0e8c158afc3f", func := "loop.example/g00235/laws.FnExactSameDisk", spec := "fnExactSameDisk", unfollowed := true, recurses := true, apart := false, narrowed := true }
def FnExactSameDiskUptoSaid : Prop := fnExactSameDiskUptoRow.holds Try.pinned (OpenSpec.upto fnExactSameDiskSpec)

/-- 'laws.FnExactDiskOk', WHERE WHAT IT READS IS OF BULK AT MOST 1048576: true; the input reads as it did. -/
def fnExactDiskOkUptoRow : OpenClaim := { program := "ytdnbpapolckklaa", sum := "1e062b598add8dc6aee269b8fab1ff3152dd35fb138e21cdfb2a0e8c158afc3f", func := "loop.example/g00235/laws.FnExactDiskOk", spec := "fnExactDiskOk", unfollowed := true, recurses := true, apart := false, narrowed := true }
def FnExactDiskOkUptoSaid : Prop := fnExactDiskOkUptoRow.holds Try.pinned (OpenSpec.upto fnExactDiskOkSpec)

/-- 'laws.FnExactUnitText', WHERE WHAT IT READS IS OF BULK AT MOST 1048576: true; the input reads as it did. -/
def fnExactUnitTextUptoRow : OpenClaim := { program := "ytdnbpapolckklaa", sum := "1e062b598add8dc6aee269b8fab1ff3152dd35fb138e21cdfb2a0e8c158afc3f", func := "loop.example/g00235/laws.FnExactUnitText", spec := "fnExactUnitText", unfollowed := true, recurses := true, apart := false, narrowed := true }
def FnExactUnitTextUptoSaid : Prop := fnExactUnitTextUptoRow.holds Try.pinned (OpenSpec.upto fnExactUnitTextSpec)

end Rows
end Go.Proofs.Ytdnbpapolckklaa
