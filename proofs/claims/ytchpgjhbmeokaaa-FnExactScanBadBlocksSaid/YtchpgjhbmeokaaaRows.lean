/-
  No cell of these rows narrows 'for every input' (looked for: loops, veiled, ifaces, maps, wideKeys, modest, calm, conditions, laid).
  DERIVED. THE GIVEN ROWS OF THIS SEAT. 9 by the template 'for every input the law returns true; each argument reads behind the call as it read before'; 0 by the template 'total and deterministic' (their statements: YtchpgjhbmeokaaaTotals.lean).
  GIVEN WITH THE SEED: the statements are not yours to turn. If you find one false, say at which input.
  Laid BY PROGRAM, IN A SANDBOX (cutbox-rows.mjs): the forced cells as the released guide's own fill.sh prints them over the translation 57b917d367f6a0bd… (all of the seat's roots in one cut). By AI agents, Wed Nov 11 2026. No macro, syntax, notation, axiom, sorry.
-/
import Derived.Test.YtchpgjhbmeokaaaChecked
import GoSem.Claim
import GoSem.ClaimJoined
import GoSem.ClaimMapViews
import Derived.JoinedTies
import Derived.KernelRfl
namespace Go.Proofs.Ytchpgjhbmeokaaa
/- THE CELL 'sum', in the pinned program and in every row, IS THE sha256 OF THE DUMP (.gsa) THAT YtchpgjhbmeokaaaProg.lean LOADS. Nothing in Lean hashes anything: it is a label: what it is worth is what the hold of that sum in a sandbox is worth. -/
noncomputable def Try.pinned : Pinned := { name := "ytchpgjhbmeokaaa", sum := "57b917d367f6a0bdb54469523911ce21f7b61d7095dae933b7e20fdeb7fbfd44", checked := Try.checked }
namespace Rows
def none {H : Type} : Left H := { results := [], args := [] }

/-- 'laws.FnExactValidBadTable': WHATEVER THE INPUT: true; the input reads as it did. -/
def fnExactValidBadTableSpec : ChangeSpec := { name := "fnExactValidBadTable", fn := fun _ => fun
  | [d] => { results := [.lit (.bool true)], args := [d] }
  | _ => none }
def fnExactValidBadTableRow : OpenClaim := { program := "ytchpgjhbmeokaaa", sum := "57b917d367f6a0bdb54469523911ce21f7b61d7095dae933b7e20fdeb7fbfd44", func := "loop.example/g00905/laws.FnExactValidBadTable", spec := "fnExactValidBadTable", unfollowed := true, recurses := true, plainKeys := false, apart := false }
def FnExactValidBadTableSaid : Prop := fnExactValidBadTableRow.holds Try.pinned (OpenSpec.ofChange fnExactValidBadTableSpec)

/-- ITS FALSE NEIGHBOUR: 'it returns false'. Refute it at one input. -/
def fnExactValidBadTableWrong : ChangeSpec := { name := "fnExactValidBadTable", fn := fun _ => fun
  | [d] => { results := [.lit (.bool false)], args := [d] }
  | _ => none }
def FnExactValidBadTableWrongFalsely : Prop := fnExactValidBadTableRow.holds Try.pinned (OpenSpec.ofChange fnExactValidBadTableWrong)

/-- 'laws.FnExactPhysicalBlock': WHATEVER THE INPUT: true; the input reads as it did. -/
def fnExactPhysicalBlockSpec : ChangeSpec := { name := "fnExactPhysicalBlock", fn := fun _ => fun
  | [d1, d2] => { results := [.lit (.bool true)], args := [d1, d2] }
  | _ => none }
def fnExactPhysicalBlockRow : OpenClaim := { program := "ytchpgjhbmeokaaa", sum := "57b917d367f6a0bdb54469523911ce21f7b61d7095dae933b7e20fdeb7fbfd44", func := "loop.example/g00905/laws.FnExactPhysicalBlock", spec := "fnExactPhysicalBlock", unfollowed := true, recurses := true, plainKeys := false, apart := false }
def FnExactPhysicalBlockSaid : Prop := fnExactPhysicalBlockRow.holds Try.pinned (OpenSpec.ofChange fnExactPhysicalBlockSpec)

/-- ITS FALSE NEIGHBOUR: 'it returns false'. Refute it at one input. -/
def fnExactPhysicalBlockWrong : ChangeSpec := { name := "fnExactPhysicalBlock", fn := fun _ => fun
  | [d1, d2] => { results := [.lit (.bool false)], args := [d1, d2] }
  | _ => none }
def FnExactPhysicalBlockWrongFalsely : Prop := fnExactPhysicalBlockRow.holds Try.pinned (OpenSpec.ofChange fnExactPhysicalBlockWrong)

/-- 'laws.FnExactLogicalBlock': WHATEVER THE INPUT: true; the input reads as it did. -/
def fnExactLogicalBlockSpec : ChangeSpec := { name := "fnExactLogicalBlock", fn := fun _ => fun
  | [d1, d2] => { results := [.lit (.bool true)], args := [d1, d2] }
  | _ => none }
def fnExactLogicalBlockRow : OpenClaim := { program := "ytchpgjhbmeokaaa", sum := "57b917d367f6a0bdb54469523911ce21f7b61d7095dae933b7e20fdeb7fbfd44", func := "loop.example/g00905/laws.FnExactLogicalBlock", spec := "fnExactLogicalBlock", unfollowed := true, recurses := true, plainKeys := false, apart := false }
def FnExactLogicalBlockSaid : Prop := fnExactLogicalBlockRow.holds Try.pinned (OpenSpec.ofChange fnExactLogicalBlockSpec)

/-- ITS FALSE NEIGHBOUR: 'it returns false'. Refute it at one input. -/
def fnExactLogicalBlockWrong : ChangeSpec := { name := "fnExactLogicalBlock", fn := fun _ => fun
  | [d1, d2] => { results := [.lit (.bool false)], args := [d1, d2] }
  | _ => none }
def FnExactLogicalBlockWrongFalsely : Prop := fnExactLogicalBlockRow.holds Try.pinned (OpenSpec.ofChange fnExactLogicalBlockWrong)

/-- 'laws.FnExactAvailableSpares': WHATEVER THE INPUT: true; the input reads as it did. -/
def fnExactAvailableSparesSpec : ChangeSpec := { name := "fnExactAvailableSpares", fn := fun _ => fun
  | [d1, d2] => { results := [.lit (.bool true)], args := [d1, d2] }
  | _ => none }
def fnExactAvailableSparesRow : OpenClaim := { program := "ytchpgjhbmeokaaa", sum := "57b917d367f6a0bdb54469523911ce21f7b61d7095dae933b7e20fdeb7fbfd44", func := "loop.example/g00905/laws.FnExactAvailableSpares", spec := "fnExactAvailableSpares", unfollowed := true, recurses := true, plainKeys := false, apart := false }
def FnExactAvailableSparesSaid : Prop := fnExactAvailableSparesRow.holds Try.pinned (OpenSpec.ofChange fnExactAvailableSparesSpec)

/-- ITS FALSE NEIGHBOUR: 'it returns false'. Refute it at one input. -/
def fnExactAvailableSparesWrong : ChangeSpec := { name := "fnExactAvailableSpares", fn := fun _ => fun
  | [d1, d2] => { results := [.lit (.bool false)], args := [d1, d2] }
  | _ => none }
def FnExactAvailableSparesWrongFalsely : Prop := fnExactAvailableSparesRow.holds Try.pinned (OpenSpec.ofChange fnExactAvailableSparesWrong)

/-- 'laws.FnExactNewBadTable': WHATEVER THE INPUT: true; the input reads as it did. -/
def fnExactNewBadTableSpec : ChangeSpec := { name := "fnExactNewBadTable", fn := fun _ => fun
  | [d1, d2, d3] => { results := [.lit (.bool true)], args := [d1, d2, d3] }
  | _ => none }
def fnExactNewBadTableRow : OpenClaim := { program := "ytchpgjhbmeokaaa", sum := "57b917d367f6a0bdb54469523911ce21f7b61d7095dae933b7e20fdeb7fbfd44", func := "loop.example/g00905/laws.FnExactNewBadTable", spec := "fnExactNewBadTable", unfollowed := true, recurses := true, plainKeys := false, apart := false }
def FnExactNewBadTableSaid : Prop := fnExactNewBadTableRow.holds Try.pinned (OpenSpec.ofChange fnExactNewBadTableSpec)

/-- ITS FALSE NEIGHBOUR: 'it returns false'. Refute it at one input. -/
def fnExactNewBadTableWrong : ChangeSpec := { name := "fnExactNewBadTable", fn := fun _ => fun
  | [d1, d2, d3] => { results := [.lit (.bool false)], args := [d1, d2, d3] }
  | _ => none }
def FnExactNewBadTableWrongFalsely : Prop := fnExactNewBadTableRow.holds Try.pinned (OpenSpec.ofChange fnExactNewBadTableWrong)

/-- 'laws.FnExactScanBadBlocks': WHATEVER THE INPUT: true; the input reads as it did. -/
def fnExactScanBadBlocksSpec : ChangeSpec := { name := "fnExactScanBadBlocks", fn := fun _ => fun
  | [d1, d2] => { results := [.lit (.bool true)], args := [d1, d2] }
  | _ => none }
def fnExactScanBadBlocksRow : OpenClaim := { program := "ytchpgjhbmeokaaa", sum := "57b917d367f6a0bdb54469523911ce21f7b61d7095dae933b7e20fdeb7fbfd44", func := "loop.example/g00905/laws.FnExactScanBadBlocks", spec := "fnExactScanBadBlocks", unfollowed := true, recurses := true, plainKeys := false, apart := false }
def FnExactScanBadBlocksSaid : Prop := fnExactScanBadBlocksRow.holds Try.pinned (OpenSpec.ofChange fnExactScanBadBlocksSpec)

/-- ITS FALSE NEIGHBOUR: 'it returns false'. Refute it at one input. -/
def fnExactScanBadBlocksWrong : ChangeSpec := { name := "fnExactScanBadBlocks", fn := fun _ => fun
  | [d1, d2] => { results := [.lit (.bool false)], args := [d1, d2] }
  | _ => none }
def FnExactScanBadBlocksWrongFalsely : Prop := fnExactScanBadBlocksRow.holds Try.pinned (OpenSpec.ofChange fnExactScanBadBlocksWrong)

/-- 'laws.FnExactDifferingBits': WHATEVER THE INPUT: true; the input reads as it did. -/
def fnExactDifferingBitsSpec : ChangeSpec := { name := "fnExactDifferingBits", fn := fun _ => fun
  | [d1, d2] => { results := [.lit (.bool true)], args := [d1, d2] }
  | _ => none }
def fnExactDifferingBitsRow : OpenClaim := { program := "ytchpgjhbmeokaaa", sum := "57b917d367f6a0bdb54469523911ce21f7b61d7095dae933b7e20fdeb7fbfd44", func := "loop.example/g00905/laws.FnExactDifferingBits", spec := "fnExactDifferingBits", inPlace := ["internal/abi.NoEscape", "internal/bytealg.MakeNoZero"], unfollowed := true, recurses := true, plainKeys := false, apart := false }
def FnExactDifferingBitsSaid : Prop := fnExactDifferingBitsRow.holds Try.pinned (OpenSpec.ofChange fnExactDifferingBitsSpec)

/-- ITS FALSE NEIGHBOUR: 'it returns false'. Refute it at one input. -/
def fnExactDifferingBitsWrong : ChangeSpec := { name := "fnExactDifferingBits", fn := fun _ => fun
  | [d1, d2] => { results := [.lit (.bool false)], args := [d1, d2] }
  | _ => none }
def FnExactDifferingBitsWrongFalsely : Prop := fnExactDifferingBitsRow.holds Try.pinned (OpenSpec.ofChange fnExactDifferingBitsWrong)

/-- 'laws.FnExactFaultedBlocks': WHATEVER THE INPUT: true; the input reads as it did. -/
def fnExactFaultedBlocksSpec : ChangeSpec := { name := "fnExactFaultedBlocks", fn := fun _ => fun
  | [d] => { results := [.lit (.bool true)], args := [d] }
  | _ => none }
def fnExactFaultedBlocksRow : OpenClaim := { program := "ytchpgjhbmeokaaa", sum := "57b917d367f6a0bdb54469523911ce21f7b61d7095dae933b7e20fdeb7fbfd44", func := "loop.example/g00905/laws.FnExactFaultedBlocks", spec := "fnExactFaultedBlocks", recurses := true, plainKeys := false, apart := false }
def FnExactFaultedBlocksSaid : Prop := fnExactFaultedBlocksRow.holds Try.pinned (OpenSpec.ofChange fnExactFaultedBlocksSpec)

/-- ITS FALSE NEIGHBOUR: 'it returns false'. Refute it at one input. -/
def fnExactFaultedBlocksWrong : ChangeSpec := { name := "fnExactFaultedBlocks", fn := fun _ => fun
  | [d] => { results := [.lit (.bool false)], args := [d] }
  | _ => none }
def FnExactFaultedBlocksWrongFalsely : Prop := fnExactFaultedBlocksRow.holds Try.pinned (OpenSpec.ofChange fnExactFaultedBlocksWrong)

/-- 'laws.FnExactWithinEccBudget': WHATEVER THE INPUT: true; the input reads as it did. -/
def fnExactWithinEccBudgetSpec : ChangeSpec := { name := "fnExactWithinEccBudget", fn := fun _ => fun
  | [d1, d2] => { results := [.lit (.bool true)], args := [d1, d2] }
  | _ => none }
def fnExactWithinEccBudgetRow : OpenClaim := { program := "ytchpgjhbmeokaaa", sum := "57b917d367f6a0bdb54469523911ce21f7b61d7095dae933b7e20fdeb7fbfd44", func := "loop.example/g00905/laws.FnExactWithinEccBudget", spec := "fnExactWithinEccBudget", unfollowed := true, recurses := true, plainKeys := false, apart := false }
def FnExactWithinEccBudgetSaid : Prop := fnExactWithinEccBudgetRow.holds Try.pinned (OpenSpec.ofChange fnExactWithinEccBudgetSpec)

/-- ITS FALSE NEIGHBOUR: 'it returns false'. Refute it at one input. -/
def fnExactWithinEccBudgetWrong : ChangeSpec := { name := "fnExactWithinEccBudget", fn := fun _ => fun
  | [d1, d2] => { results := [.lit (.bool false)], args := [d1, d2] }
  | _ => none }
def FnExactWithinEccBudgetWrongFalsely : Prop := fnExactWithinEccBudgetRow.holds Try.pinned (OpenSpec.ofChange fnExactWithinEccBudgetWrong)

/- THE SECOND FORM. 'bulk': how many values and letters a reading holds, each counted each time it is reached (what is shared counts as often as it is met; a slice's spare places count too). A statement '..UptoSaid' is the law's where the arguments, and the package variables that the reading takes, are together of bulk at most 1048576: NARROWER than '..Said'. Prove '..Said' where nothing that the law and all that it calls make is longer than what came in: it says more and counts as full. Else prove '..UptoSaid'. A law counts once. -/
mutual
def uptoBulk {H : Type} : DataW H → Nat
  | .lit (.string bytes) => bytes.length + 1
  | .lit _ => 1
  | .nil => 1
  | .ptr d => uptoBulk d + 1
  | .slice elems spare => uptoBulkAll elems + uptoBulkAll spare + 1
  | .agg parts => uptoBulkAll parts + 1
  | .iface _ d => uptoBulk d + 1
  | .map entries => uptoBulkEntries entries + 1
  | .held _ => 1
def uptoBulkAll {H : Type} : List (DataW H) → Nat
  | [] => 0
  | d :: r => uptoBulk d + uptoBulkAll r
def uptoBulkEntries {H : Type} : List (Lit × DataW H) → Nat
  | [] => 0
  | x :: r => uptoBulkEntry x + uptoBulkEntries r
def uptoBulkEntry {H : Type} : Lit × DataW H → Nat
  | (.string bytes, d) => bytes.length + uptoBulk d + 1
  | (_, d) => uptoBulk d + 1
 end
def uptoSmall : (H : Type) → List (DataW H) → Bool := fun _ ds => decide (uptoBulkAll ds ≤ 1048576)
def OpenSpec.upto (s : _root_.Go.ChangeSpec) : _root_.Go.OpenSpec := { _root_.Go.OpenSpec.ofChange s with cond := some uptoSmall }

/-- 'laws.FnExactValidBadTable', WHERE WHAT IT READS IS OF BULK AT MOST 1048576: true; the input reads as it did. -/
def fnExactValidBadTableUptoRow : OpenClaim := { program := "ytchpgjhbmeokaaa", sum := "57b917d367f6a0bdb54469523911ce21f7b61d7095dae933b7e20fdeb7fbfd44", func := "loop.example/g00905/laws.FnExactValidBadTable", spec := "fnExactValidBadTable", unfollowed := true, recurses := true, plainKeys := false, apart := false, narrowed := true }
def FnExactValidBadTableUptoSaid : Prop := fnExactValidBadTableUptoRow.holds Try.pinned (OpenSpec.upto fnExactValidBadTableSpec)

/-- 'laws.FnExactPhysicalBlock', WHERE WHAT IT READS IS OF BULK AT MOST 1048576: true; the input reads as it did. -/
def fnExactPhysicalBlockUptoRow : OpenClaim := { program := "ytchpgjhbmeokaaa", sum := "57b917d367f6a0bdb54469523911ce21f7b61d7095dae933b7e20fdeb7fbfd44", func := "loop.example/g00905/laws.FnExactPhysicalBlock", spec := "fnExactPhysicalBlock", unfollowed := true, recurses := true, plainKeys := false, apart := false, narrowed := true }
def FnExactPhysicalBlockUptoSaid : Prop := fnExactPhysicalBlockUptoRow.holds Try.pinned (OpenSpec.upto fnExactPhysicalBlockSpec)

/-- 'laws.FnExactLogicalBlock', WHERE WHAT IT READS IS OF BULK AT MOST 1048576: true; the input reads as it did. -/
def fnExactLogicalBlockUptoRow : OpenClaim := { program := "ytchpgjhbmeokaaa", sum := "57b917d367f6a0bdb54469523911ce21f7b61d7095dae933b7e20fdeb7fbfd44", func := "loop.example/g00905/laws.FnExactLogicalBlock", spec := "fnExactLogicalBlock", unfollowed := true, recurses := true, plainKeys := false, apart := false, narrowed := true }
def FnExactLogicalBlockUptoSaid : Prop := fnExactLogicalBlockUptoRow.holds Try.pinned (OpenSpec.upto fnExactLogicalBlockSpec)

/-- 'laws.FnExactAvailableSpares', WHERE WHAT IT READS IS OF BULK AT MOST 1048576: true; the input reads as it did. -/
def fnExactAvailableSparesUptoRow : OpenClaim := { program := "ytchpgjhbmeokaaa", sum := "57b917d367f6a0bdb54469523911ce21f7b61d7095dae933b7e20fdeb7fbfd44", func := "loop.example/g00905/laws.FnExactAvailableSpares", spec := "fnExactAvailableSpares", unfollowed := true, recurses := true, plainKeys := false, apart := false, narrowed := true }
def FnExactAvailableSparesUptoSaid : Prop := fnExactAvailableSparesUptoRow.holds Try.pinned (OpenSpec.upto fnExactAvailableSparesSpec)

/-- 'laws.FnExactNewBadTable', WHERE WHAT IT READS IS OF BULK AT MOST 1048576: true; the input reads as it did. -/
def fnExactNewBadTableUptoRow : OpenClaim := { program := "ytchpgjhbmeokaaa", sum := "57b917d367f6a0bdb54469523911ce21f7b61d7095dae933b7e20fdeb7fbfd44", func := "loop.example/g00905/laws.FnExactNewBadTable", spec := "fnExactNewBadTable", unfollowed := true, recurses := true, plainKeys := false, apart := false, narrowed := true }
def FnExactNewBadTableUptoSaid : Prop := fnExactNewBadTableUptoRow.holds Try.pinned (OpenSpec.upto fnExactNewBadTableSpec)

/-- 'laws.FnExactScanBadBlocks', WHERE WHAT IT READS IS OF BULK AT MOST 1048576: true; the input reads as it did. -/
def fnExactScanBadBlocksUptoRow : OpenClaim := { program := "ytchpgjhbmeokaaa", sum := "57b917d367f6a0bdb54469523911ce21f7b61d7095dae933b7e20fdeb7fbfd44", func := "loop.example/g00905/laws.FnExactScanBadBlocks", spec := "fnExactScanBadBlocks", unfollowed := true, recurses := true, plainKeys := false, apart := false, narrowed := true }
def FnExactScanBadBlocksUptoSaid : Prop := fnExactScanBadBlocksUptoRow.holds Try.pinned (OpenSpec.upto fnExactScanBadBlocksSpec)

/-- 'laws.FnExactDifferingBits', WHERE WHAT IT READS IS OF BULK AT MOST 1048576: true; the input reads as it did. -/
def fnExactDifferingBitsUptoRow : OpenClaim := { program := "ytchpgjhbmeokaaa", sum := "57b917d367f6a0bdb54469523911ce21f7b61d7095dae933b7e20fdeb7fbfd44", func := "loop.example/g00905/laws.FnExactDifferingBits", spec := "fnExactDifferingBits", inPlace := ["internal/abi.NoEscape", "internal/bytealg.MakeNoZero"], unfollowed := true, recurses := true, plainKeys := false, apart := false, narrowed := true }
def FnExactDifferingBitsUptoSaid : Prop := fnExactDifferingBitsUptoRow.holds Try.pinned (OpenSpec.upto fnExactDifferingBitsSpec)

/-- 'laws.FnExactFaultedBlocks', WHERE WHAT IT READS IS OF BULK AT MOST 1048576: true; the input reads as it did. -/
def fnExactFaultedBlocksUptoRow : OpenClaim := { program := "ytchpgjhbmeokaaa", sum := "57b917d367f6a0bdb54469523911ce21f7b61d7095dae933b7e20fdeb7fbfd44", func := "loop.example/g00905/laws.FnExactFaultedBlocks", spec := "fnExactFaultedBlocks", recurses := true, plainKeys := false, apart := false, narrowed := true }
def FnExactFaultedBlocksUptoSaid : Prop := fnExactFaultedBlocksUptoRow.holds Try.pinned (OpenSpec.upto fnExactFaultedBlocksSpec)

/-- 'laws.FnExactWithinEccBudget', WHERE WHAT IT READS IS OF BULK AT MOST 1048576: true; the input reads as it did. -/
def fnExactWithinEccBudgetUptoRow : OpenClaim := { program := "ytchpgjhbmeokaaa", sum := "57b917d367f6a0bdb54469523911ce21f7b61d7095dae933b7e20fdeb7fbfd44", func := "loop.example/g00905/laws.FnExactWithinEccBudget", spec := "fnExactWithinEccBudget", unfollowed := true, recurses := true, plainKeys := false, apart := false, narrowed := true }
def FnExactWithinEccBudgetUptoSaid : Prop := fnExactWithinEccBudgetUptoRow.holds Try.pinned (OpenSpec.upto fnExactWithinEccBudgetSpec)

end Rows
end Go.Proofs.Ytchpgjhbmeokaaa
