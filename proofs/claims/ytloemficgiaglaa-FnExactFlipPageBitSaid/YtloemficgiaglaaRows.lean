/-
  No cell of these rows narrows 'for every input' (looked for: loops, veiled, ifaces, maps, wideKeys, modest, calm, conditions, laid).
  DERIVED. THE GIVEN ROWS OF THIS SEAT. 12 by the template 'for every input the law returns true; each argument reads behind the call as it read before'; 0 by the template 'total and deterministic' (their statements: YtloemficgiaglaaTotals.lean).
  GIVEN WITH THE SEED: the statements are not yours to turn. If you find one false, say at which input.
  Laid BY PROGRAM, IN A SANDBOX (cutbox-rows.mjs): the forced cells as the released guide's own fill.sh prints them over the translation ebdcf1ec49bec8dd… (all of the seat's roots in one cut). By AI agents, Wed Nov 11 2026. No macro, syntax, notation, axiom, sorry.
-/
import Derived.Test.YtloemficgiaglaaChecked
import GoSem.Claim
import GoSem.ClaimJoined
import GoSem.ClaimMapViews
import Derived.JoinedTies
import Derived.KernelRfl
namespace Go.Proofs.Ytloemficgiaglaa
/- THE CELL 'sum', in the pinned program and in every row, IS THE sha256 OF THE DUMP (.gsa) THAT YtloemficgiaglaaProg.lean LOADS. Nothing in Lean hashes anything: it is a label: what it is worth is what the hold of that sum in a sandbox is worth. -/
noncomputable def Try.pinned : Pinned := { name := "ytloemficgiaglaa", sum := "ebdcf1ec49bec8ddc34e66ce891f9c63f9e3b629ad3a0138082529c5b416e19c", checked := Try.checked }
namespace Rows
def none {H : Type} : Left H := { results := [], args := [] }

/-- 'laws.FnExactParityDie': WHATEVER THE INPUT: true; the input reads as it did. -/
def fnExactParityDieSpec : ChangeSpec := { name := "fnExactParityDie", fn := fun _ => fun
  | [d1, d2] => { results := [.lit (.bool true)], args := [d1, d2] }
  | _ => none }
def fnExactParityDieRow : OpenClaim := { program := "ytloemficgiaglaa", sum := "ebdcf1ec49bec8ddc34e66ce891f9c63f9e3b629ad3a0138082529c5b416e19c", func := "loop.example/g00905/laws.FnExactParityDie", spec := "fnExactParityDie", apart := false }
def FnExactParityDieSaid : Prop := fnExactParityDieRow.holds Try.pinned (OpenSpec.ofChange fnExactParityDieSpec)

/-- ITS FALSE NEIGHBOUR: 'it returns false'. Refute it at one input. -/
def fnExactParityDieWrong : ChangeSpec := { name := "fnExactParityDie", fn := fun _ => fun
  | [d1, d2] => { results := [.lit (.bool false)], args := [d1, d2] }
  | _ => none }
def FnExactParityDieWrongFalsely : Prop := fnExactParityDieRow.holds Try.pinned (OpenSpec.ofChange fnExactParityDieWrong)

/-- 'laws.FnExactXorBytes': WHATEVER THE INPUT: true; the input reads as it did. -/
def fnExactXorBytesSpec : ChangeSpec := { name := "fnExactXorBytes", fn := fun _ => fun
  | [d1, d2] => { results := [.lit (.bool true)], args := [d1, d2] }
  | _ => none }
def fnExactXorBytesRow : OpenClaim := { program := "ytloemficgiaglaa", sum := "ebdcf1ec49bec8ddc34e66ce891f9c63f9e3b629ad3a0138082529c5b416e19c", func := "loop.example/g00905/laws.FnExactXorBytes", spec := "fnExactXorBytes", apart := false }
def FnExactXorBytesSaid : Prop := fnExactXorBytesRow.holds Try.pinned (OpenSpec.ofChange fnExactXorBytesSpec)

/-- ITS FALSE NEIGHBOUR: 'it returns false'. Refute it at one input. -/
def fnExactXorBytesWrong : ChangeSpec := { name := "fnExactXorBytes", fn := fun _ => fun
  | [d1, d2] => { results := [.lit (.bool false)], args := [d1, d2] }
  | _ => none }
def FnExactXorBytesWrongFalsely : Prop := fnExactXorBytesRow.holds Try.pinned (OpenSpec.ofChange fnExactXorBytesWrong)

/-- 'laws.FnExactDataDie': WHATEVER THE INPUT: true; the input reads as it did. -/
def fnExactDataDieSpec : ChangeSpec := { name := "fnExactDataDie", fn := fun _ => fun
  | [d1, d2, d3] => { results := [.lit (.bool true)], args := [d1, d2, d3] }
  | _ => none }
def fnExactDataDieRow : OpenClaim := { program := "ytloemficgiaglaa", sum := "ebdcf1ec49bec8ddc34e66ce891f9c63f9e3b629ad3a0138082529c5b416e19c", func := "loop.example/g00905/laws.FnExactDataDie", spec := "fnExactDataDie", apart := false }
def FnExactDataDieSaid : Prop := fnExactDataDieRow.holds Try.pinned (OpenSpec.ofChange fnExactDataDieSpec)

/-- ITS FALSE NEIGHBOUR: 'it returns false'. Refute it at one input. -/
def fnExactDataDieWrong : ChangeSpec := { name := "fnExactDataDie", fn := fun _ => fun
  | [d1, d2, d3] => { results := [.lit (.bool false)], args := [d1, d2, d3] }
  | _ => none }
def FnExactDataDieWrongFalsely : Prop := fnExactDataDieRow.holds Try.pinned (OpenSpec.ofChange fnExactDataDieWrong)

/-- 'laws.FnExactBackLfsr': WHATEVER THE INPUT: true; the input reads as it did. -/
def fnExactBackLfsrSpec : ChangeSpec := { name := "fnExactBackLfsr", fn := fun _ => fun
  | [d] => { results := [.lit (.bool true)], args := [d] }
  | _ => none }
def fnExactBackLfsrRow : OpenClaim := { program := "ytloemficgiaglaa", sum := "ebdcf1ec49bec8ddc34e66ce891f9c63f9e3b629ad3a0138082529c5b416e19c", func := "loop.example/g00905/laws.FnExactBackLfsr", spec := "fnExactBackLfsr", apart := false }
def FnExactBackLfsrSaid : Prop := fnExactBackLfsrRow.holds Try.pinned (OpenSpec.ofChange fnExactBackLfsrSpec)

/-- ITS FALSE NEIGHBOUR: 'it returns false'. Refute it at one input. -/
def fnExactBackLfsrWrong : ChangeSpec := { name := "fnExactBackLfsr", fn := fun _ => fun
  | [d] => { results := [.lit (.bool false)], args := [d] }
  | _ => none }
def FnExactBackLfsrWrongFalsely : Prop := fnExactBackLfsrRow.holds Try.pinned (OpenSpec.ofChange fnExactBackLfsrWrong)

/-- 'laws.FnExactFlipPageBit': WHATEVER THE INPUT: true; the input reads as it did. -/
def fnExactFlipPageBitSpec : ChangeSpec := { name := "fnExactFlipPageBit", fn := fun _ => fun
  | [d1, d2] => { results := [.lit (.bool true)], args := [d1, d2] }
  | _ => none }
def fnExactFlipPageBitRow : OpenClaim := { program := "ytloemficgiaglaa", sum := "ebdcf1ec49bec8ddc34e66ce891f9c63f9e3b629ad3a0138082529c5b416e19c", func := "loop.example/g00905/laws.FnExactFlipPageBit", spec := "fnExactFlipPageBit", apart := false }
def FnExactFlipPageBitSaid : Prop := fnExactFlipPageBitRow.holds Try.pinned (OpenSpec.ofChange fnExactFlipPageBitSpec)

/-- ITS FALSE NEIGHBOUR: 'it returns false'. Refute it at one input. -/
def fnExactFlipPageBitWrong : ChangeSpec := { name := "fnExactFlipPageBit", fn := fun _ => fun
  | [d1, d2] => { results := [.lit (.bool false)], args := [d1, d2] }
  | _ => none }
def FnExactFlipPageBitWrongFalsely : Prop := fnExactFlipPageBitRow.holds Try.pinned (OpenSpec.ofChange fnExactFlipPageBitWrong)

/-- 'laws.FnExactStepLfsr': WHATEVER THE INPUT: true; the input reads as it did. -/
def fnExactStepLfsrSpec : ChangeSpec := { name := "fnExactStepLfsr", fn := fun _ => fun
  | [d] => { results := [.lit (.bool true)], args := [d] }
  | _ => none }
def fnExactStepLfsrRow : OpenClaim := { program := "ytloemficgiaglaa", sum := "ebdcf1ec49bec8ddc34e66ce891f9c63f9e3b629ad3a0138082529c5b416e19c", func := "loop.example/g00905/laws.FnExactStepLfsr", spec := "fnExactStepLfsr", apart := false }
def FnExactStepLfsrSaid : Prop := fnExactStepLfsrRow.holds Try.pinned (OpenSpec.ofChange fnExactStepLfsrSpec)

/-- ITS FALSE NEIGHBOUR: 'it returns false'. Refute it at one input. -/
def fnExactStepLfsrWrong : ChangeSpec := { name := "fnExactStepLfsr", fn := fun _ => fun
  | [d] => { results := [.lit (.bool false)], args := [d] }
  | _ => none }
def FnExactStepLfsrWrongFalsely : Prop := fnExactStepLfsrRow.holds Try.pinned (OpenSpec.ofChange fnExactStepLfsrWrong)

/-- 'laws.FnExactUnitOn': WHATEVER THE INPUT: true; the input reads as it did. -/
def fnExactUnitOnSpec : ChangeSpec := { name := "fnExactUnitOn", fn := fun _ => fun
  | [d1, d2, d3] => { results := [.lit (.bool true)], args := [d1, d2, d3] }
  | _ => none }
def fnExactUnitOnRow : OpenClaim := { program := "ytloemficgiaglaa", sum := "ebdcf1ec49bec8ddc34e66ce891f9c63f9e3b629ad3a0138082529c5b416e19c", func := "loop.example/g00905/laws.FnExactUnitOn", spec := "fnExactUnitOn", apart := false }
def FnExactUnitOnSaid : Prop := fnExactUnitOnRow.holds Try.pinned (OpenSpec.ofChange fnExactUnitOnSpec)

/-- ITS FALSE NEIGHBOUR: 'it returns false'. Refute it at one input. -/
def fnExactUnitOnWrong : ChangeSpec := { name := "fnExactUnitOn", fn := fun _ => fun
  | [d1, d2, d3] => { results := [.lit (.bool false)], args := [d1, d2, d3] }
  | _ => none }
def FnExactUnitOnWrongFalsely : Prop := fnExactUnitOnRow.holds Try.pinned (OpenSpec.ofChange fnExactUnitOnWrong)

/-- 'laws.FnExactJumpLfsr': WHATEVER THE INPUT: true; the input reads as it did. -/
def fnExactJumpLfsrSpec : ChangeSpec := { name := "fnExactJumpLfsr", fn := fun _ => fun
  | [d1, d2] => { results := [.lit (.bool true)], args := [d1, d2] }
  | _ => none }
def fnExactJumpLfsrRow : OpenClaim := { program := "ytloemficgiaglaa", sum := "ebdcf1ec49bec8ddc34e66ce891f9c63f9e3b629ad3a0138082529c5b416e19c", func := "loop.example/g00905/laws.FnExactJumpLfsr", spec := "fnExactJumpLfsr", apart := false }
def FnExactJumpLfsrSaid : Prop := fnExactJumpLfsrRow.holds Try.pinned (OpenSpec.ofChange fnExactJumpLfsrSpec)

/-- ITS FALSE NEIGHBOUR: 'it returns false'. Refute it at one input. -/
def fnExactJumpLfsrWrong : ChangeSpec := { name := "fnExactJumpLfsr", fn := fun _ => fun
  | [d1, d2] => { results := [.lit (.bool false)], args := [d1, d2] }
  | _ => none }
def FnExactJumpLfsrWrongFalsely : Prop := fnExactJumpLfsrRow.holds Try.pinned (OpenSpec.ofChange fnExactJumpLfsrWrong)

/-- 'laws.FnRotation': WHATEVER THE INPUT: true; the input reads as it did. -/
def fnRotationSpec : ChangeSpec := { name := "fnRotation", fn := fun _ => fun
  | [d1, d2] => { results := [.lit (.bool true)], args := [d1, d2] }
  | _ => none }
def fnRotationRow : OpenClaim := { program := "ytloemficgiaglaa", sum := "ebdcf1ec49bec8ddc34e66ce891f9c63f9e3b629ad3a0138082529c5b416e19c", func := "loop.example/g00905/laws.FnRotation", spec := "fnRotation", apart := false }
def FnRotationSaid : Prop := fnRotationRow.holds Try.pinned (OpenSpec.ofChange fnRotationSpec)

/-- ITS FALSE NEIGHBOUR: 'it returns false'. Refute it at one input. -/
def fnRotationWrong : ChangeSpec := { name := "fnRotation", fn := fun _ => fun
  | [d1, d2] => { results := [.lit (.bool false)], args := [d1, d2] }
  | _ => none }
def FnRotationWrongFalsely : Prop := fnRotationRow.holds Try.pinned (OpenSpec.ofChange fnRotationWrong)

/-- 'laws.FnExactUpdateParity': WHATEVER THE INPUT: true; the input reads as it did. -/
def fnExactUpdateParitySpec : ChangeSpec := { name := "fnExactUpdateParity", fn := fun _ => fun
  | [d1, d2, d3] => { results := [.lit (.bool true)], args := [d1, d2, d3] }
  | _ => none }
def fnExactUpdateParityRow : OpenClaim := { program := "ytloemficgiaglaa", sum := "ebdcf1ec49bec8ddc34e66ce891f9c63f9e3b629ad3a0138082529c5b416e19c", func := "loop.example/g00905/laws.FnExactUpdateParity", spec := "fnExactUpdateParity", apart := false }
def FnExactUpdateParitySaid : Prop := fnExactUpdateParityRow.holds Try.pinned (OpenSpec.ofChange fnExactUpdateParitySpec)

/-- ITS FALSE NEIGHBOUR: 'it returns false'. Refute it at one input. -/
def fnExactUpdateParityWrong : ChangeSpec := { name := "fnExactUpdateParity", fn := fun _ => fun
  | [d1, d2, d3] => { results := [.lit (.bool false)], args := [d1, d2, d3] }
  | _ => none }
def FnExactUpdateParityWrongFalsely : Prop := fnExactUpdateParityRow.holds Try.pinned (OpenSpec.ofChange fnExactUpdateParityWrong)

/-- 'laws.FnExactKeystream': WHATEVER THE INPUT: true; the input reads as it did. -/
def fnExactKeystreamSpec : ChangeSpec := { name := "fnExactKeystream", fn := fun _ => fun
  | [d1, d2] => { results := [.lit (.bool true)], args := [d1, d2] }
  | _ => none }
def fnExactKeystreamRow : OpenClaim := { program := "ytloemficgiaglaa", sum := "ebdcf1ec49bec8ddc34e66ce891f9c63f9e3b629ad3a0138082529c5b416e19c", func := "loop.example/g00905/laws.FnExactKeystream", spec := "fnExactKeystream", apart := false }
def FnExactKeystreamSaid : Prop := fnExactKeystreamRow.holds Try.pinned (OpenSpec.ofChange fnExactKeystreamSpec)

/-- ITS FALSE NEIGHBOUR: 'it returns false'. Refute it at one input. -/
def fnExactKeystreamWrong : ChangeSpec := { name := "fnExactKeystream", fn := fun _ => fun
  | [d1, d2] => { results := [.lit (.bool false)], args := [d1, d2] }
  | _ => none }
def FnExactKeystreamWrongFalsely : Prop := fnExactKeystreamRow.holds Try.pinned (OpenSpec.ofChange fnExactKeystreamWrong)

/-- 'laws.FnExactScramble': WHATEVER THE INPUT: true; the input reads as it did. -/
def fnExactScrambleSpec : ChangeSpec := { name := "fnExactScramble", fn := fun _ => fun
  | [d1, d2] => { results := [.lit (.bool true)], args := [d1, d2] }
  | _ => none }
def fnExactScrambleRow : OpenClaim := { program := "ytloemficgiaglaa", sum := "ebdcf1ec49bec8ddc34e66ce891f9c63f9e3b629ad3a0138082529c5b416e19c", func := "loop.example/g00905/laws.FnExactScramble", spec := "fnExactScramble", apart := false }
def FnExactScrambleSaid : Prop := fnExactScrambleRow.holds Try.pinned (OpenSpec.ofChange fnExactScrambleSpec)

/-- ITS FALSE NEIGHBOUR: 'it returns false'. Refute it at one input. -/
def fnExactScrambleWrong : ChangeSpec := { name := "fnExactScramble", fn := fun _ => fun
  | [d1, d2] => { results := [.lit (.bool false)], args := [d1, d2] }
  | _ => none }
def FnExactScrambleWrongFalsely : Prop := fnExactScrambleRow.holds Try.pinned (OpenSpec.ofChange fnExactScrambleWrong)

/- THE SECOND FORM. 'bulk': how many values and letters a reading holds, each counted each time it is reached (what is shared counts as often as it is met; a slice's spare places count too). A statement '..UptoSaid' is the law's where the arguments, and the package variables that the reading takes, are together of bulk at most 1048576: NARROWER than '..Said'. Prove '..Said' where nothing that the law and all that it calls make is longer than what came in: it says more and counts as full. Else prove '..UptoSaid'. A law counts once. -/
mutual
def uptoBulk {H : Type} : DataW H → Nat
  | .lit (.string bytes) => bytes.length + 1
  | .lit _ => 1
  | .nil => 1
  | .ptr d => uptoBulk d + 1
  | .slice elems spare => uptoBulkAll elems + uptoBulkAll spare + 1
  | .agg parts => uptoBulkAll parts + 1
  | .iface _ d => uptoBulk d + 1
  | .map entries => uptoBulkEntries entries + 1
  | .held _ => 1
def uptoBulkAll {H : Type} : List (DataW H) → Nat
  | [] => 0
  | d :: r => uptoBulk d + uptoBulkAll r
def uptoBulkEntries {H : Type} : List (Lit × DataW H) → Nat
  | [] => 0
  | x :: r => uptoBulkEntry x + uptoBulkEntries r
def uptoBulkEntry {H : Type} : Lit × DataW H → Nat
  | (.string bytes, d) => bytes.length + uptoBulk d + 1
  | (_, d) => uptoBulk d + 1
 end
def uptoSmall : (H : Type) → List (DataW H) → Bool := fun _ ds => decide (uptoBulkAll ds ≤ 1048576)
def OpenSpec.upto (s : _root_.Go.ChangeSpec) : _root_.Go.OpenSpec := { _root_.Go.OpenSpec.ofChange s with cond := some uptoSmall }

/-- 'laws.FnExactParityDie', WHERE WHAT IT READS IS OF BULK AT MOST 1048576: true; the input reads as it did. -/
def fnExactParityDieUptoRow : OpenClaim := { program := "ytloemficgiaglaa", sum := "ebdcf1ec49bec8ddc34e66ce891f9c63f9e3b629ad3a0138082529c5b416e19c", func := "loop.example/g00905/laws.FnExactParityDie", spec := "fnExactParityDie", apart := false, narrowed := true }
def FnExactParityDieUptoSaid : Prop := fnExactParityDieUptoRow.holds Try.pinned (OpenSpec.upto fnExactParityDieSpec)

/-- 'laws.FnExactXorBytes', WHERE WHAT IT READS IS OF BULK AT MOST 1048576: true; the input reads as it did. -/
def fnExactXorBytesUptoRow : OpenClaim := { program := "ytloemficgiaglaa", sum := "ebdcf1ec49bec8ddc34e66ce891f9c63f9e3b629ad3a0138082529c5b416e19c", func := "loop.example/g00905/laws.FnExactXorBytes", spec := "fnExactXorBytes", apart := false, narrowed := true }
def FnExactXorBytesUptoSaid : Prop := fnExactXorBytesUptoRow.holds Try.pinned (OpenSpec.upto fnExactXorBytesSpec)

/-- 'laws.FnExactDataDie', WHERE WHAT IT READS IS OF BULK AT MOST 1048576: true; the input reads as it did. -/
def fnExactDataDieUptoRow : OpenClaim := { program := "ytloemficgiaglaa", sum := "ebdcf1ec49bec8ddc34e66ce891f9c63f9e3b629ad3a0138082529c5b416e19c", func := "loop.example/g00905/laws.FnExactDataDie", spec := "fnExactDataDie", apart := false, narrowed := true }
def FnExactDataDieUptoSaid : Prop := fnExactDataDieUptoRow.holds Try.pinned (OpenSpec.upto fnExactDataDieSpec)

/-- 'laws.FnExactBackLfsr', WHERE WHAT IT READS IS OF BULK AT MOST 1048576: true; the input reads as it did. -/
def fnExactBackLfsrUptoRow : OpenClaim := { program := "ytloemficgiaglaa", sum := "ebdcf1ec49bec8ddc34e66ce891f9c63f9e3b629ad3a0138082529c5b416e19c", func := "loop.example/g00905/laws.FnExactBackLfsr", spec := "fnExactBackLfsr", apart := false, narrowed := true }
def FnExactBackLfsrUptoSaid : Prop := fnExactBackLfsrUptoRow.holds Try.pinned (OpenSpec.upto fnExactBackLfsrSpec)

/-- 'laws.FnExactFlipPageBit', WHERE WHAT IT READS IS OF BULK AT MOST 1048576: true; the input reads as it did. -/
def fnExactFlipPageBitUptoRow : OpenClaim := { program := "ytloemficgiaglaa", sum := "ebdcf1ec49bec8ddc34e66ce891f9c63f9e3b629ad3a0138082529c5b416e19c", func := "loop.example/g00905/laws.FnExactFlipPageBit", spec := "fnExactFlipPageBit", apart := false, narrowed := true }
def FnExactFlipPageBitUptoSaid : Prop := fnExactFlipPageBitUptoRow.holds Try.pinned (OpenSpec.upto fnExactFlipPageBitSpec)

/-- 'laws.FnExactStepLfsr', WHERE WHAT IT READS IS OF BULK AT MOST 1048576: true; the input reads as it did. -/
def fnExactStepLfsrUptoRow : OpenClaim := { program := "ytloemficgiaglaa", sum := "ebdcf1ec49bec8ddc34e66ce891f9c63f9e3b629ad3a0138082529c5b416e19c", func := "loop.example/g00905/laws.FnExactStepLfsr", spec := "fnExactStepLfsr", apart := false, narrowed := true }
def FnExactStepLfsrUptoSaid : Prop := fnExactStepLfsrUptoRow.holds Try.pinned (OpenSpec.upto fnExactStepLfsrSpec)

/-- 'laws.FnExactUnitOn', WHERE WHAT IT READS IS OF BULK AT MOST 1048576: true; the input reads as it did. -/
def fnExactUnitOnUptoRow : OpenClaim := { program := "ytloemficgiaglaa", sum := "ebdcf1ec49bec8ddc34e66ce891f9c63f9e3b629ad3a0138082529c5b416e19c", func := "loop.example/g00905/laws.FnExactUnitOn", spec := "fnExactUnitOn", apart := false, narrowed := true }
def FnExactUnitOnUptoSaid : Prop := fnExactUnitOnUptoRow.holds Try.pinned (OpenSpec.upto fnExactUnitOnSpec)

/-- 'laws.FnExactJumpLfsr', WHERE WHAT IT READS IS OF BULK AT MOST 1048576: true; the input reads as it did. -/
def fnExactJumpLfsrUptoRow : OpenClaim := { program := "ytloemficgiaglaa", sum := "ebdcf1ec49bec8ddc34e66ce891f9c63f9e3b629ad3a0138082529c5b416e19c", func := "loop.example/g00905/laws.FnExactJumpLfsr", spec := "fnExactJumpLfsr", apart := false, narrowed := true }
def FnExactJumpLfsrUptoSaid : Prop := fnExactJumpLfsrUptoRow.holds Try.pinned (OpenSpec.upto fnExactJumpLfsrSpec)

/-- 'laws.FnRotation', WHERE WHAT IT READS IS OF BULK AT MOST 1048576: true; the input reads as it did. -/
def fnRotationUptoRow : OpenClaim := { program := "ytloemficgiaglaa", sum := "ebdcf1ec49bec8ddc34e66ce891f9c63f9e3b629ad3a0138082529c5b416e19c", func := "loop.example/g00905/laws.FnRotation", spec := "fnRotation", apart := false, narrowed := true }
def FnRotationUptoSaid : Prop := fnRotationUptoRow.holds Try.pinned (OpenSpec.upto fnRotationSpec)

/-- 'laws.FnExactUpdateParity', WHERE WHAT IT READS IS OF BULK AT MOST 1048576: true; the input reads as it did. -/
def fnExactUpdateParityUptoRow : OpenClaim := { program := "ytloemficgiaglaa", sum := "ebdcf1ec49bec8ddc34e66ce891f9c63f9e3b629ad3a0138082529c5b416e19c", func := "loop.example/g00905/laws.FnExactUpdateParity", spec := "fnExactUpdateParity", apart := false, narrowed := true }
def FnExactUpdateParityUptoSaid : Prop := fnExactUpdateParityUptoRow.holds Try.pinned (OpenSpec.upto fnExactUpdateParitySpec)

/-- 'laws.FnExactKeystream', WHERE WHAT IT READS IS OF BULK AT MOST 1048576: true; the input reads as it did. -/
def fnExactKeystreamUptoRow : OpenClaim := { program := "ytloemficgiaglaa", sum := "ebdcf1ec49bec8ddc34e66ce891f9c63f9e3b629ad3a0138082529c5b416e19c", func := "loop.example/g00905/laws.FnExactKeystream", spec := "fnExactKeystream", apart := false, narrowed := true }
def FnExactKeystreamUptoSaid : Prop := fnExactKeystreamUptoRow.holds Try.pinned (OpenSpec.upto fnExactKeystreamSpec)

/-- 'laws.FnExactScramble', WHERE WHAT IT READS IS OF BULK AT MOST 1048576: true; the input reads as it did. -/
def fnExactScrambleUptoRow : OpenClaim := { program := "ytloemficgiaglaa", sum := "ebdcf1ec49bec8ddc34e66ce891f9c63f9e3b629ad3a0138082529c5b416e19c", func := "loop.example/g00905/laws.FnExactScramble", spec := "fnExactScramble", apart := false, narrowed := true }
def FnExactScrambleUptoSaid : Prop := fnExactScrambleUptoRow.holds Try.pinned (OpenSpec.upto fnExactScrambleSpec)

end Rows
end Go.Proofs.Ytloemficgiaglaa
