/-
  No cell of these rows narrows 'for every input' (looked for: loops, veiled, ifaces, maps, wideKeys, modest, calm, conditions, laid).
  DERIVED. THE GIVEN ROWS OF THIS SEAT. 12 by the template 'for every input the law returns true; each argument reads behind the call as it read before'; 0 by the template 'total and deterministic' (their statements: YtgemaodbhagehaaTotals.lean).
  GIVEN WITH THE SEED: the statements are not yours to turn. If you find one false, say at which input.
  Laid BY PROGRAM, IN A SANDBOX (cutbox-rows.mjs): the forced cells as the released guide's own fill.sh prints them over the translation 4006b8446a9844df… (all of the seat's roots in one cut). By AI agents, Wed Nov 11 2026. No macro, syntax, notation, axiom, sorry.
-/
import Derived.Test.YtgemaodbhagehaaChecked
import GoSem.Claim
import GoSem.ClaimJoined
import GoSem.ClaimMapViews
import Derived.JoinedTies
import Derived.KernelRfl
namespace Go.Proofs.Ytgemaodbhagehaa
/- THE CELL 'sum', in the pinned program and in every row, IS THE sha256 OF THE DUMP (.gsa) THAT YtgemaodbhagehaaProg.lean LOADS. Nothing in Lean hashes anything: it is a label: what it is worth is what the hold of that sum in a sandbox is worth. -/
noncomputable def Try.pinned : Pinned := { name := "ytgemaodbhagehaa", sum := "4006b8446a9844dfac07aa3e3f2b3e752149f42513343b699bdf5ff5411c0f5e", checked := Try.checked }
namespace Rows
def none {H : Type} : Left H := { results := [], args := [] }

/-- 'laws.FnExactValidMeta': WHATEVER THE INPUT: true; the input reads as it did. -/
def fnExactValidMetaSpec : ChangeSpec := { name := "fnExactValidMeta", fn := fun _ => fun
  | [d] => { results := [.lit (.bool true)], args := [d] }
  | _ => none }
def fnExactValidMetaRow : OpenClaim := { program := "ytgemaodbhagehaa", sum := "4006b8446a9844dfac07aa3e3f2b3e752149f42513343b699bdf5ff5411c0f5e", func := "loop.example/g00905/laws.FnExactValidMeta", spec := "fnExactValidMeta", apart := false }
def FnExactValidMetaSaid : Prop := fnExactValidMetaRow.holds Try.pinned (OpenSpec.ofChange fnExactValidMetaSpec)

/-- ITS FALSE NEIGHBOUR: 'it returns false'. Refute it at one input. -/
def fnExactValidMetaWrong : ChangeSpec := { name := "fnExactValidMeta", fn := fun _ => fun
  | [d] => { results := [.lit (.bool false)], args := [d] }
  | _ => none }
def FnExactValidMetaWrongFalsely : Prop := fnExactValidMetaRow.holds Try.pinned (OpenSpec.ofChange fnExactValidMetaWrong)

/-- 'laws.FnExactDiffBits': WHATEVER THE INPUT: true; the input reads as it did. -/
def fnExactDiffBitsSpec : ChangeSpec := { name := "fnExactDiffBits", fn := fun _ => fun
  | [d1, d2] => { results := [.lit (.bool true)], args := [d1, d2] }
  | _ => none }
def fnExactDiffBitsRow : OpenClaim := { program := "ytgemaodbhagehaa", sum := "4006b8446a9844dfac07aa3e3f2b3e752149f42513343b699bdf5ff5411c0f5e", func := "loop.example/g00905/laws.FnExactDiffBits", spec := "fnExactDiffBits", apart := false }
def FnExactDiffBitsSaid : Prop := fnExactDiffBitsRow.holds Try.pinned (OpenSpec.ofChange fnExactDiffBitsSpec)

/-- ITS FALSE NEIGHBOUR: 'it returns false'. Refute it at one input. -/
def fnExactDiffBitsWrong : ChangeSpec := { name := "fnExactDiffBits", fn := fun _ => fun
  | [d1, d2] => { results := [.lit (.bool false)], args := [d1, d2] }
  | _ => none }
def FnExactDiffBitsWrongFalsely : Prop := fnExactDiffBitsRow.holds Try.pinned (OpenSpec.ofChange fnExactDiffBitsWrong)

/-- 'laws.FnExactValidFault': WHATEVER THE INPUT: true; the input reads as it did. -/
def fnExactValidFaultSpec : ChangeSpec := { name := "fnExactValidFault", fn := fun _ => fun
  | [d1, d2] => { results := [.lit (.bool true)], args := [d1, d2] }
  | _ => none }
def fnExactValidFaultRow : OpenClaim := { program := "ytgemaodbhagehaa", sum := "4006b8446a9844dfac07aa3e3f2b3e752149f42513343b699bdf5ff5411c0f5e", func := "loop.example/g00905/laws.FnExactValidFault", spec := "fnExactValidFault", apart := false }
def FnExactValidFaultSaid : Prop := fnExactValidFaultRow.holds Try.pinned (OpenSpec.ofChange fnExactValidFaultSpec)

/-- ITS FALSE NEIGHBOUR: 'it returns false'. Refute it at one input. -/
def fnExactValidFaultWrong : ChangeSpec := { name := "fnExactValidFault", fn := fun _ => fun
  | [d1, d2] => { results := [.lit (.bool false)], args := [d1, d2] }
  | _ => none }
def FnExactValidFaultWrongFalsely : Prop := fnExactValidFaultRow.holds Try.pinned (OpenSpec.ofChange fnExactValidFaultWrong)

/-- 'laws.FnExactValidStats': WHATEVER THE INPUT: true; the input reads as it did. -/
def fnExactValidStatsSpec : ChangeSpec := { name := "fnExactValidStats", fn := fun _ => fun
  | [d1, d2] => { results := [.lit (.bool true)], args := [d1, d2] }
  | _ => none }
def fnExactValidStatsRow : OpenClaim := { program := "ytgemaodbhagehaa", sum := "4006b8446a9844dfac07aa3e3f2b3e752149f42513343b699bdf5ff5411c0f5e", func := "loop.example/g00905/laws.FnExactValidStats", spec := "fnExactValidStats", unfollowed := true, recurses := true, apart := false }
def FnExactValidStatsSaid : Prop := fnExactValidStatsRow.holds Try.pinned (OpenSpec.ofChange fnExactValidStatsSpec)

/-- ITS FALSE NEIGHBOUR: 'it returns false'. Refute it at one input. -/
def fnExactValidStatsWrong : ChangeSpec := { name := "fnExactValidStats", fn := fun _ => fun
  | [d1, d2] => { results := [.lit (.bool false)], args := [d1, d2] }
  | _ => none }
def FnExactValidStatsWrongFalsely : Prop := fnExactValidStatsRow.holds Try.pinned (OpenSpec.ofChange fnExactValidStatsWrong)

/-- 'laws.FnExactGainOf': WHATEVER THE INPUT: true; the input reads as it did. -/
def fnExactGainOfSpec : ChangeSpec := { name := "fnExactGainOf", fn := fun _ => fun
  | [d1, d2, d3] => { results := [.lit (.bool true)], args := [d1, d2, d3] }
  | _ => none }
def fnExactGainOfRow : OpenClaim := { program := "ytgemaodbhagehaa", sum := "4006b8446a9844dfac07aa3e3f2b3e752149f42513343b699bdf5ff5411c0f5e", func := "loop.example/g00905/laws.FnExactGainOf", spec := "fnExactGainOf", unfollowed := true, recurses := true, apart := false }
def FnExactGainOfSaid : Prop := fnExactGainOfRow.holds Try.pinned (OpenSpec.ofChange fnExactGainOfSpec)

/-- ITS FALSE NEIGHBOUR: 'it returns false'. Refute it at one input. -/
def fnExactGainOfWrong : ChangeSpec := { name := "fnExactGainOf", fn := fun _ => fun
  | [d1, d2, d3] => { results := [.lit (.bool false)], args := [d1, d2, d3] }
  | _ => none }
def FnExactGainOfWrongFalsely : Prop := fnExactGainOfRow.holds Try.pinned (OpenSpec.ofChange fnExactGainOfWrong)

/-- 'laws.FnExactAverageLive': WHATEVER THE INPUT: true; the input reads as it did. -/
def fnExactAverageLiveSpec : ChangeSpec := { name := "fnExactAverageLive", fn := fun _ => fun
  | [d1, d2] => { results := [.lit (.bool true)], args := [d1, d2] }
  | _ => none }
def fnExactAverageLiveRow : OpenClaim := { program := "ytgemaodbhagehaa", sum := "4006b8446a9844dfac07aa3e3f2b3e752149f42513343b699bdf5ff5411c0f5e", func := "loop.example/g00905/laws.FnExactAverageLive", spec := "fnExactAverageLive", unfollowed := true, recurses := true, apart := false }
def FnExactAverageLiveSaid : Prop := fnExactAverageLiveRow.holds Try.pinned (OpenSpec.ofChange fnExactAverageLiveSpec)

/-- ITS FALSE NEIGHBOUR: 'it returns false'. Refute it at one input. -/
def fnExactAverageLiveWrong : ChangeSpec := { name := "fnExactAverageLive", fn := fun _ => fun
  | [d1, d2] => { results := [.lit (.bool false)], args := [d1, d2] }
  | _ => none }
def FnExactAverageLiveWrongFalsely : Prop := fnExactAverageLiveRow.holds Try.pinned (OpenSpec.ofChange fnExactAverageLiveWrong)

/-- 'laws.FnExactSameBadTable': WHATEVER THE INPUT: true; the input reads as it did. -/
def fnExactSameBadTableSpec : ChangeSpec := { name := "fnExactSameBadTable", fn := fun _ => fun
  | [d1, d2] => { results := [.lit (.bool true)], args := [d1, d2] }
  | _ => none }
def fnExactSameBadTableRow : OpenClaim := { program := "ytgemaodbhagehaa", sum := "4006b8446a9844dfac07aa3e3f2b3e752149f42513343b699bdf5ff5411c0f5e", func := "loop.example/g00905/laws.FnExactSameBadTable", spec := "fnExactSameBadTable", apart := false }
def FnExactSameBadTableSaid : Prop := fnExactSameBadTableRow.holds Try.pinned (OpenSpec.ofChange fnExactSameBadTableSpec)

/-- ITS FALSE NEIGHBOUR: 'it returns false'. Refute it at one input. -/
def fnExactSameBadTableWrong : ChangeSpec := { name := "fnExactSameBadTable", fn := fun _ => fun
  | [d1, d2] => { results := [.lit (.bool false)], args := [d1, d2] }
  | _ => none }
def FnExactSameBadTableWrongFalsely : Prop := fnExactSameBadTableRow.holds Try.pinned (OpenSpec.ofChange fnExactSameBadTableWrong)

/-- 'laws.FnExactSameMap': WHATEVER THE INPUT: true; the input reads as it did. -/
def fnExactSameMapSpec : ChangeSpec := { name := "fnExactSameMap", fn := fun _ => fun
  | [d1, d2] => { results := [.lit (.bool true)], args := [d1, d2] }
  | _ => none }
def fnExactSameMapRow : OpenClaim := { program := "ytgemaodbhagehaa", sum := "4006b8446a9844dfac07aa3e3f2b3e752149f42513343b699bdf5ff5411c0f5e", func := "loop.example/g00905/laws.FnExactSameMap", spec := "fnExactSameMap", apart := false }
def FnExactSameMapSaid : Prop := fnExactSameMapRow.holds Try.pinned (OpenSpec.ofChange fnExactSameMapSpec)

/-- ITS FALSE NEIGHBOUR: 'it returns false'. Refute it at one input. -/
def fnExactSameMapWrong : ChangeSpec := { name := "fnExactSameMap", fn := fun _ => fun
  | [d1, d2] => { results := [.lit (.bool false)], args := [d1, d2] }
  | _ => none }
def FnExactSameMapWrongFalsely : Prop := fnExactSameMapRow.holds Try.pinned (OpenSpec.ofChange fnExactSameMapWrong)

/-- 'laws.FnExactRandomFaults': WHATEVER THE INPUT: true; the input reads as it did. -/
def fnExactRandomFaultsSpec : ChangeSpec := { name := "fnExactRandomFaults", fn := fun _ => fun
  | [d1, d2, d3] => { results := [.lit (.bool true)], args := [d1, d2, d3] }
  | _ => none }
def fnExactRandomFaultsRow : OpenClaim := { program := "ytgemaodbhagehaa", sum := "4006b8446a9844dfac07aa3e3f2b3e752149f42513343b699bdf5ff5411c0f5e", func := "loop.example/g00905/laws.FnExactRandomFaults", spec := "fnExactRandomFaults", unfollowed := true, recurses := true, apart := false }
def FnExactRandomFaultsSaid : Prop := fnExactRandomFaultsRow.holds Try.pinned (OpenSpec.ofChange fnExactRandomFaultsSpec)

/-- ITS FALSE NEIGHBOUR: 'it returns false'. Refute it at one input. -/
def fnExactRandomFaultsWrong : ChangeSpec := { name := "fnExactRandomFaults", fn := fun _ => fun
  | [d1, d2, d3] => { results := [.lit (.bool false)], args := [d1, d2, d3] }
  | _ => none }
def FnExactRandomFaultsWrongFalsely : Prop := fnExactRandomFaultsRow.holds Try.pinned (OpenSpec.ofChange fnExactRandomFaultsWrong)

/-- 'laws.FnExactValidFound': WHATEVER THE INPUT: true; the input reads as it did. -/
def fnExactValidFoundSpec : ChangeSpec := { name := "fnExactValidFound", fn := fun _ => fun
  | [d] => { results := [.lit (.bool true)], args := [d] }
  | _ => none }
def fnExactValidFoundRow : OpenClaim := { program := "ytgemaodbhagehaa", sum := "4006b8446a9844dfac07aa3e3f2b3e752149f42513343b699bdf5ff5411c0f5e", func := "loop.example/g00905/laws.FnExactValidFound", spec := "fnExactValidFound", apart := false }
def FnExactValidFoundSaid : Prop := fnExactValidFoundRow.holds Try.pinned (OpenSpec.ofChange fnExactValidFoundSpec)

/-- ITS FALSE NEIGHBOUR: 'it returns false'. Refute it at one input. -/
def fnExactValidFoundWrong : ChangeSpec := { name := "fnExactValidFound", fn := fun _ => fun
  | [d] => { results := [.lit (.bool false)], args := [d] }
  | _ => none }
def FnExactValidFoundWrongFalsely : Prop := fnExactValidFoundRow.holds Try.pinned (OpenSpec.ofChange fnExactValidFoundWrong)

/-- 'laws.FnExactValidMap': WHATEVER THE INPUT: true; the input reads as it did. -/
def fnExactValidMapSpec : ChangeSpec := { name := "fnExactValidMap", fn := fun _ => fun
  | [d] => { results := [.lit (.bool true)], args := [d] }
  | _ => none }
def fnExactValidMapRow : OpenClaim := { program := "ytgemaodbhagehaa", sum := "4006b8446a9844dfac07aa3e3f2b3e752149f42513343b699bdf5ff5411c0f5e", func := "loop.example/g00905/laws.FnExactValidMap", spec := "fnExactValidMap", apart := false }
def FnExactValidMapSaid : Prop := fnExactValidMapRow.holds Try.pinned (OpenSpec.ofChange fnExactValidMapSpec)

/-- ITS FALSE NEIGHBOUR: 'it returns false'. Refute it at one input. -/
def fnExactValidMapWrong : ChangeSpec := { name := "fnExactValidMap", fn := fun _ => fun
  | [d] => { results := [.lit (.bool false)], args := [d] }
  | _ => none }
def FnExactValidMapWrongFalsely : Prop := fnExactValidMapRow.holds Try.pinned (OpenSpec.ofChange fnExactValidMapWrong)

/-- 'laws.FnExactNextSeq': WHATEVER THE INPUT: true; the input reads as it did. -/
def fnExactNextSeqSpec : ChangeSpec := { name := "fnExactNextSeq", fn := fun _ => fun
  | [d] => { results := [.lit (.bool true)], args := [d] }
  | _ => none }
def fnExactNextSeqRow : OpenClaim := { program := "ytgemaodbhagehaa", sum := "4006b8446a9844dfac07aa3e3f2b3e752149f42513343b699bdf5ff5411c0f5e", func := "loop.example/g00905/laws.FnExactNextSeq", spec := "fnExactNextSeq", apart := false }
def FnExactNextSeqSaid : Prop := fnExactNextSeqRow.holds Try.pinned (OpenSpec.ofChange fnExactNextSeqSpec)

/-- ITS FALSE NEIGHBOUR: 'it returns false'. Refute it at one input. -/
def fnExactNextSeqWrong : ChangeSpec := { name := "fnExactNextSeq", fn := fun _ => fun
  | [d] => { results := [.lit (.bool false)], args := [d] }
  | _ => none }
def FnExactNextSeqWrongFalsely : Prop := fnExactNextSeqRow.holds Try.pinned (OpenSpec.ofChange fnExactNextSeqWrong)

/- THE SECOND FORM. 'bulk': how many values and letters a reading holds, each counted each time it is reached (what is shared counts as often as it is met; a slice's spare places count too). A statement '..UptoSaid' is the law's where the arguments, and the package variables that the reading takes, are together of bulk at most 1048576: NARROWER than '..Said'. Prove '..Said' where nothing that the law and all that it calls make is longer than what came in: it says more and counts as full. Else prove '..UptoSaid'. A law counts once. -/
mutual
def uptoBulk {H : Type} : DataW H → Nat
  | .lit (.string bytes) => bytes.length + 1
  | .lit _ => 1
  | .nil => 1
  | .ptr d => uptoBulk d + 1
  | .slice elems spare => uptoBulkAll elems + uptoBulkAll spare + 1
  | .agg parts => uptoBulkAll parts + 1
  | .iface _ d => uptoBulk d + 1
  | .map entries => uptoBulkEntries entries + 1
  | .held _ => 1
def uptoBulkAll {H : Type} : List (DataW H) → Nat
  | [] => 0
  | d :: r => uptoBulk d + uptoBulkAll r
def uptoBulkEntries {H : Type} : List (Lit × DataW H) → Nat
  | [] => 0
  | x :: r => uptoBulkEntry x + uptoBulkEntries r
def uptoBulkEntry {H : Type} : Lit × DataW H → Nat
  | (.string bytes, d) => bytes.length + uptoBulk d + 1
  | (_, d) => uptoBulk d + 1
 end
def uptoSmall : (H : Type) → List (DataW H) → Bool := fun _ ds => decide (uptoBulkAll ds ≤ 1048576)
def OpenSpec.upto (s : _root_.Go.ChangeSpec) : _root_.Go.OpenSpec := { _root_.Go.OpenSpec.ofChange s with cond := some uptoSmall }

/-- 'laws.FnExactValidMeta', WHERE WHAT IT READS IS OF BULK AT MOST 1048576: true; the input reads as it did. -/
def fnExactValidMetaUptoRow : OpenClaim := { program := "ytgemaodbhagehaa", sum := "4006b8446a9844dfac07aa3e3f2b3e752149f42513343b699bdf5ff5411c0f5e", func := "loop.example/g00905/laws.FnExactValidMeta", spec := "fnExactValidMeta", apart := false, narrowed := true }
def FnExactValidMetaUptoSaid : Prop := fnExactValidMetaUptoRow.holds Try.pinned (OpenSpec.upto fnExactValidMetaSpec)

/-- 'laws.FnExactDiffBits', WHERE WHAT IT READS IS OF BULK AT MOST 1048576: true; the input reads as it did. -/
def fnExactDiffBitsUptoRow : OpenClaim := { program := "ytgemaodbhagehaa", sum := "4006b8446a9844dfac07aa3e3f2b3e752149f42513343b699bdf5ff5411c0f5e", func := "loop.example/g00905/laws.FnExactDiffBits", spec := "fnExactDiffBits", apart := false, narrowed := true }
def FnExactDiffBitsUptoSaid : Prop := fnExactDiffBitsUptoRow.holds Try.pinned (OpenSpec.upto fnExactDiffBitsSpec)

/-- 'laws.FnExactValidFault', WHERE WHAT IT READS IS OF BULK AT MOST 1048576: true; the input reads as it did. -/
def fnExactValidFaultUptoRow : OpenClaim := { program := "ytgemaodbhagehaa", sum := "4006b8446a9844dfac07aa3e3f2b3e752149f42513343b699bdf5ff5411c0f5e", func := "loop.example/g00905/laws.FnExactValidFault", spec := "fnExactValidFault", apart := false, narrowed := true }
def FnExactValidFaultUptoSaid : Prop := fnExactValidFaultUptoRow.holds Try.pinned (OpenSpec.upto fnExactValidFaultSpec)

/-- 'laws.FnExactValidStats', WHERE WHAT IT READS IS OF BULK AT MOST 1048576: true; the input reads as it did. -/
def fnExactValidStatsUptoRow : OpenClaim := { program := "ytgemaodbhagehaa", sum := "4006b8446a9844dfac07aa3e3f2b3e752149f42513343b699bdf5ff5411c0f5e", func := "loop.example/g00905/laws.FnExactValidStats", spec := "fnExactValidStats", unfollowed := true, recurses := true, apart := false, narrowed := true }
def FnExactValidStatsUptoSaid : Prop := fnExactValidStatsUptoRow.holds Try.pinned (OpenSpec.upto fnExactValidStatsSpec)

/-- 'laws.FnExactGainOf', WHERE WHAT IT READS IS OF BULK AT MOST 1048576: true; the input reads as it did. -/
def fnExactGainOfUptoRow : OpenClaim := { program := "ytgemaodbhagehaa", sum := "4006b8446a9844dfac07aa3e3f2b3e752149f42513343b699bdf5ff5411c0f5e", func := "loop.example/g00905/laws.FnExactGainOf", spec := "fnExactGainOf", unfollowed := true, recurses := true, apart := false, narrowed := true }
def FnExactGainOfUptoSaid : Prop := fnExactGainOfUptoRow.holds Try.pinned (OpenSpec.upto fnExactGainOfSpec)

/-- 'laws.FnExactAverageLive', WHERE WHAT IT READS IS OF BULK AT MOST 1048576: true; the input reads as it did. -/
def fnExactAverageLiveUptoRow : OpenClaim := { program := "ytgemaodbhagehaa", sum := "4006b8446a9844dfac07aa3e3f2b3e752149f42513343b699bdf5ff5411c0f5e", func := "loop.example/g00905/laws.FnExactAverageLive", spec := "fnExactAverageLive", unfollowed := true, recurses := true, apart := false, narrowed := true }
def FnExactAverageLiveUptoSaid : Prop := fnExactAverageLiveUptoRow.holds Try.pinned (OpenSpec.upto fnExactAverageLiveSpec)

/-- 'laws.FnExactSameBadTable', WHERE WHAT IT READS IS OF BULK AT MOST 1048576: true; the input reads as it did. -/
def fnExactSameBadTableUptoRow : OpenClaim := { program := "ytgemaodbhagehaa", sum := "4006b8446a9844dfac07aa3e3f2b3e752149f42513343b699bdf5ff5411c0f5e", func := "loop.example/g00905/laws.FnExactSameBadTable", spec := "fnExactSameBadTable", apart := false, narrowed := true }
def FnExactSameBadTableUptoSaid : Prop := fnExactSameBadTableUptoRow.holds Try.pinned (OpenSpec.upto fnExactSameBadTableSpec)

/-- 'laws.FnExactSameMap', WHERE WHAT IT READS IS OF BULK AT MOST 1048576: true; the input reads as it did. -/
def fnExactSameMapUptoRow : OpenClaim := { program := "ytgemaodbhagehaa", sum := "4006b8446a9844dfac07aa3e3f2b3e752149f42513343b699bdf5ff5411c0f5e", func := "loop.example/g00905/laws.FnExactSameMap", spec := "fnExactSameMap", apart := false, narrowed := true }
def FnExactSameMapUptoSaid : Prop := fnExactSameMapUptoRow.holds Try.pinned (OpenSpec.upto fnExactSameMapSpec)

/-- 'laws.FnExactRandomFaults', WHERE WHAT IT READS IS OF BULK AT MOST 1048576: true; the input reads as it did. -/
def fnExactRandomFaultsUptoRow : OpenClaim := { program := "ytgemaodbhagehaa", sum := "4006b8446a9844dfac07aa3e3f2b3e752149f42513343b699bdf5ff5411c0f5e", func := "loop.example/g00905/laws.FnExactRandomFaults", spec := "fnExactRandomFaults", unfollowed := true, recurses := true, apart := false, narrowed := true }
def FnExactRandomFaultsUptoSaid : Prop := fnExactRandomFaultsUptoRow.holds Try.pinned (OpenSpec.upto fnExactRandomFaultsSpec)

/-- 'laws.FnExactValidFound', WHERE WHAT IT READS IS OF BULK AT MOST 1048576: true; the input reads as it did. -/
def fnExactValidFoundUptoRow : OpenClaim := { program := "ytgemaodbhagehaa", sum := "4006b8446a9844dfac07aa3e3f2b3e752149f42513343b699bdf5ff5411c0f5e", func := "loop.example/g00905/laws.FnExactValidFound", spec := "fnExactValidFound", apart := false, narrowed := true }
def FnExactValidFoundUptoSaid : Prop := fnExactValidFoundUptoRow.holds Try.pinned (OpenSpec.upto fnExactValidFoundSpec)

/-- 'laws.FnExactValidMap', WHERE WHAT IT READS IS OF BULK AT MOST 1048576: true; the input reads as it did. -/
def fnExactValidMapUptoRow : OpenClaim := { program := "ytgemaodbhagehaa", sum := "4006b8446a9844dfac07aa3e3f2b3e752149f42513343b699bdf5ff5411c0f5e", func := "loop.example/g00905/laws.FnExactValidMap", spec := "fnExactValidMap", apart := false, narrowed := true }
def FnExactValidMapUptoSaid : Prop := fnExactValidMapUptoRow.holds Try.pinned (OpenSpec.upto fnExactValidMapSpec)

/-- 'laws.FnExactNextSeq', WHERE WHAT IT READS IS OF BULK AT MOST 1048576: true; the input reads as it did. -/
def fnExactNextSeqUptoRow : OpenClaim := { program := "ytgemaodbhagehaa", sum := "4006b8446a9844dfac07aa3e3f2b3e752149f42513343b699bdf5ff5411c0f5e", func := "loop.example/g00905/laws.FnExactNextSeq", spec := "fnExactNextSeq", apart := false, narrowed := true }
def FnExactNextSeqUptoSaid : Prop := fnExactNextSeqUptoRow.holds Try.pinned (OpenSpec.upto fnExactNextSeqSpec)

end Rows
end Go.Proofs.Ytgemaodbhagehaa
