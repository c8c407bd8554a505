/-
  No cell of these rows narrows 'for every input' (looked for: loops, veiled, ifaces, maps, wideKeys, modest, calm, conditions, laid).
  DERIVED. THE GIVEN ROWS OF THIS SEAT. 12 by the template 'for every input the law returns true; each argument reads behind the call as it read before'; 0 by the template 'total and deterministic' (their statements: YtgogdpcgmbbljaaTotals.lean).
  GIVEN WITH THE SEED: the statements are not yours to turn. If you find one false, say at which input.
  Laid BY PROGRAM, IN A SANDBOX (cutbox-rows.mjs): the forced cells as the released guide's own fill.sh prints them over the translation d4c58a78306d9519… (all of the seat's roots in one cut). By AI agents, Wed Nov 11 2026. No macro, syntax, notation, axiom, sorry.
-/
import Derived.Test.YtgogdpcgmbbljaaChecked
import GoSem.Claim
import GoSem.ClaimJoined
import GoSem.ClaimMapViews
import Derived.JoinedTies
import Derived.KernelRfl
namespace Go.Proofs.Ytgogdpcgmbbljaa
/- THE CELL 'sum', in the pinned program and in every row, IS THE sha256 OF THE DUMP (.gsa) THAT YtgogdpcgmbbljaaProg.lean LOADS. Nothing in Lean hashes anything: it is a label: what it is worth is what the hold of that sum in a sandbox is worth. -/
noncomputable def Try.pinned : Pinned := { name := "ytgogdpcgmbbljaa", sum := "d4c58a78306d9519f07516cf7348e691347884c6ffa120f8720ba2dc305a1462", checked := Try.checked }
namespace Rows
def none {H : Type} : Left H := { results := [], args := [] }

/-- 'laws.FnExactConstants': WHATEVER THE INPUT: true; the input reads as it did. -/
def fnExactConstantsSpec : ChangeSpec := { name := "fnExactConstants", fn := fun _ => fun
  | [] => { results := [.lit (.bool true)], args := [] }
  | _ => none }
def fnExactConstantsRow : OpenClaim := { program := "ytgogdpcgmbbljaa", sum := "d4c58a78306d9519f07516cf7348e691347884c6ffa120f8720ba2dc305a1462", func := "loop.example/g00905/laws.FnExactConstants", spec := "fnExactConstants", apart := false }
def FnExactConstantsSaid : Prop := fnExactConstantsRow.holds Try.pinned (OpenSpec.ofChange fnExactConstantsSpec)

/-- ITS FALSE NEIGHBOUR: 'it returns false'. Refute it at one input. -/
def fnExactConstantsWrong : ChangeSpec := { name := "fnExactConstants", fn := fun _ => fun
  | [] => { results := [.lit (.bool false)], args := [] }
  | _ => none }
def FnExactConstantsWrongFalsely : Prop := fnExactConstantsRow.holds Try.pinned (OpenSpec.ofChange fnExactConstantsWrong)

/-- 'laws.FnExactValidState': WHATEVER THE INPUT: true; the input reads as it did. -/
def fnExactValidStateSpec : ChangeSpec := { name := "fnExactValidState", fn := fun _ => fun
  | [d] => { results := [.lit (.bool true)], args := [d] }
  | _ => none }
def fnExactValidStateRow : OpenClaim := { program := "ytgogdpcgmbbljaa", sum := "d4c58a78306d9519f07516cf7348e691347884c6ffa120f8720ba2dc305a1462", func := "loop.example/g00905/laws.FnExactValidState", spec := "fnExactValidState", apart := false }
def FnExactValidStateSaid : Prop := fnExactValidStateRow.holds Try.pinned (OpenSpec.ofChange fnExactValidStateSpec)

/-- ITS FALSE NEIGHBOUR: 'it returns false'. Refute it at one input. -/
def fnExactValidStateWrong : ChangeSpec := { name := "fnExactValidState", fn := fun _ => fun
  | [d] => { results := [.lit (.bool false)], args := [d] }
  | _ => none }
def FnExactValidStateWrongFalsely : Prop := fnExactValidStateRow.holds Try.pinned (OpenSpec.ofChange fnExactValidStateWrong)

/-- 'laws.FnExactSeedFor': WHATEVER THE INPUT: true; the input reads as it did. -/
def fnExactSeedForSpec : ChangeSpec := { name := "fnExactSeedFor", fn := fun _ => fun
  | [d] => { results := [.lit (.bool true)], args := [d] }
  | _ => none }
def fnExactSeedForRow : OpenClaim := { program := "ytgogdpcgmbbljaa", sum := "d4c58a78306d9519f07516cf7348e691347884c6ffa120f8720ba2dc305a1462", func := "loop.example/g00905/laws.FnExactSeedFor", spec := "fnExactSeedFor", apart := false }
def FnExactSeedForSaid : Prop := fnExactSeedForRow.holds Try.pinned (OpenSpec.ofChange fnExactSeedForSpec)

/-- ITS FALSE NEIGHBOUR: 'it returns false'. Refute it at one input. -/
def fnExactSeedForWrong : ChangeSpec := { name := "fnExactSeedFor", fn := fun _ => fun
  | [d] => { results := [.lit (.bool false)], args := [d] }
  | _ => none }
def FnExactSeedForWrongFalsely : Prop := fnExactSeedForRow.holds Try.pinned (OpenSpec.ofChange fnExactSeedForWrong)

/-- 'laws.FnExactDecodeFixed': WHATEVER THE INPUT: true; the input reads as it did. -/
def fnExactDecodeFixedSpec : ChangeSpec := { name := "fnExactDecodeFixed", fn := fun _ => fun
  | [d] => { results := [.lit (.bool true)], args := [d] }
  | _ => none }
def fnExactDecodeFixedRow : OpenClaim := { program := "ytgogdpcgmbbljaa", sum := "d4c58a78306d9519f07516cf7348e691347884c6ffa120f8720ba2dc305a1462", func := "loop.example/g00905/laws.FnExactDecodeFixed", spec := "fnExactDecodeFixed", apart := false }
def FnExactDecodeFixedSaid : Prop := fnExactDecodeFixedRow.holds Try.pinned (OpenSpec.ofChange fnExactDecodeFixedSpec)

/-- ITS FALSE NEIGHBOUR: 'it returns false'. Refute it at one input. -/
def fnExactDecodeFixedWrong : ChangeSpec := { name := "fnExactDecodeFixed", fn := fun _ => fun
  | [d] => { results := [.lit (.bool false)], args := [d] }
  | _ => none }
def FnExactDecodeFixedWrongFalsely : Prop := fnExactDecodeFixedRow.holds Try.pinned (OpenSpec.ofChange fnExactDecodeFixedWrong)

/-- 'laws.FnExactValidGeometry': WHATEVER THE INPUT: true; the input reads as it did. -/
def fnExactValidGeometrySpec : ChangeSpec := { name := "fnExactValidGeometry", fn := fun _ => fun
  | [d] => { results := [.lit (.bool true)], args := [d] }
  | _ => none }
def fnExactValidGeometryRow : OpenClaim := { program := "ytgogdpcgmbbljaa", sum := "d4c58a78306d9519f07516cf7348e691347884c6ffa120f8720ba2dc305a1462", func := "loop.example/g00905/laws.FnExactValidGeometry", spec := "fnExactValidGeometry", apart := false }
def FnExactValidGeometrySaid : Prop := fnExactValidGeometryRow.holds Try.pinned (OpenSpec.ofChange fnExactValidGeometrySpec)

/-- ITS FALSE NEIGHBOUR: 'it returns false'. Refute it at one input. -/
def fnExactValidGeometryWrong : ChangeSpec := { name := "fnExactValidGeometry", fn := fun _ => fun
  | [d] => { results := [.lit (.bool false)], args := [d] }
  | _ => none }
def FnExactValidGeometryWrongFalsely : Prop := fnExactValidGeometryRow.holds Try.pinned (OpenSpec.ofChange fnExactValidGeometryWrong)

/-- 'laws.FnExactEncodeUvarint': WHATEVER THE INPUT: true; the input reads as it did. -/
def fnExactEncodeUvarintSpec : ChangeSpec := { name := "fnExactEncodeUvarint", fn := fun _ => fun
  | [d] => { results := [.lit (.bool true)], args := [d] }
  | _ => none }
def fnExactEncodeUvarintRow : OpenClaim := { program := "ytgogdpcgmbbljaa", sum := "d4c58a78306d9519f07516cf7348e691347884c6ffa120f8720ba2dc305a1462", func := "loop.example/g00905/laws.FnExactEncodeUvarint", spec := "fnExactEncodeUvarint", apart := false }
def FnExactEncodeUvarintSaid : Prop := fnExactEncodeUvarintRow.holds Try.pinned (OpenSpec.ofChange fnExactEncodeUvarintSpec)

/-- ITS FALSE NEIGHBOUR: 'it returns false'. Refute it at one input. -/
def fnExactEncodeUvarintWrong : ChangeSpec := { name := "fnExactEncodeUvarint", fn := fun _ => fun
  | [d] => { results := [.lit (.bool false)], args := [d] }
  | _ => none }
def FnExactEncodeUvarintWrongFalsely : Prop := fnExactEncodeUvarintRow.holds Try.pinned (OpenSpec.ofChange fnExactEncodeUvarintWrong)

/-- 'laws.FnExactCodeName': WHATEVER THE INPUT: true; the input reads as it did. -/
def fnExactCodeNameSpec : ChangeSpec := { name := "fnExactCodeName", fn := fun _ => fun
  | [d] => { results := [.lit (.bool true)], args := [d] }
  | _ => none }
def fnExactCodeNameRow : OpenClaim := { program := "ytgogdpcgmbbljaa", sum := "d4c58a78306d9519f07516cf7348e691347884c6ffa120f8720ba2dc305a1462", func := "loop.example/g00905/laws.FnExactCodeName", spec := "fnExactCodeName", apart := false }
def FnExactCodeNameSaid : Prop := fnExactCodeNameRow.holds Try.pinned (OpenSpec.ofChange fnExactCodeNameSpec)

/-- ITS FALSE NEIGHBOUR: 'it returns false'. Refute it at one input. -/
def fnExactCodeNameWrong : ChangeSpec := { name := "fnExactCodeName", fn := fun _ => fun
  | [d] => { results := [.lit (.bool false)], args := [d] }
  | _ => none }
def FnExactCodeNameWrongFalsely : Prop := fnExactCodeNameRow.holds Try.pinned (OpenSpec.ofChange fnExactCodeNameWrong)

/-- 'laws.FnExactCountOnes': WHATEVER THE INPUT: true; the input reads as it did. -/
def fnExactCountOnesSpec : ChangeSpec := { name := "fnExactCountOnes", fn := fun _ => fun
  | [d] => { results := [.lit (.bool true)], args := [d] }
  | _ => none }
def fnExactCountOnesRow : OpenClaim := { program := "ytgogdpcgmbbljaa", sum := "d4c58a78306d9519f07516cf7348e691347884c6ffa120f8720ba2dc305a1462", func := "loop.example/g00905/laws.FnExactCountOnes", spec := "fnExactCountOnes", apart := false }
def FnExactCountOnesSaid : Prop := fnExactCountOnesRow.holds Try.pinned (OpenSpec.ofChange fnExactCountOnesSpec)

/-- ITS FALSE NEIGHBOUR: 'it returns false'. Refute it at one input. -/
def fnExactCountOnesWrong : ChangeSpec := { name := "fnExactCountOnes", fn := fun _ => fun
  | [d] => { results := [.lit (.bool false)], args := [d] }
  | _ => none }
def FnExactCountOnesWrongFalsely : Prop := fnExactCountOnesRow.holds Try.pinned (OpenSpec.ofChange fnExactCountOnesWrong)

/-- 'laws.FnExactEncodeFixed': WHATEVER THE INPUT: true; the input reads as it did. -/
def fnExactEncodeFixedSpec : ChangeSpec := { name := "fnExactEncodeFixed", fn := fun _ => fun
  | [d1, d2] => { results := [.lit (.bool true)], args := [d1, d2] }
  | _ => none }
def fnExactEncodeFixedRow : OpenClaim := { program := "ytgogdpcgmbbljaa", sum := "d4c58a78306d9519f07516cf7348e691347884c6ffa120f8720ba2dc305a1462", func := "loop.example/g00905/laws.FnExactEncodeFixed", spec := "fnExactEncodeFixed", apart := false }
def FnExactEncodeFixedSaid : Prop := fnExactEncodeFixedRow.holds Try.pinned (OpenSpec.ofChange fnExactEncodeFixedSpec)

/-- ITS FALSE NEIGHBOUR: 'it returns false'. Refute it at one input. -/
def fnExactEncodeFixedWrong : ChangeSpec := { name := "fnExactEncodeFixed", fn := fun _ => fun
  | [d1, d2] => { results := [.lit (.bool false)], args := [d1, d2] }
  | _ => none }
def FnExactEncodeFixedWrongFalsely : Prop := fnExactEncodeFixedRow.holds Try.pinned (OpenSpec.ofChange fnExactEncodeFixedWrong)

/-- 'laws.FnExactEncodeString': WHATEVER THE INPUT: true; the input reads as it did. -/
def fnExactEncodeStringSpec : ChangeSpec := { name := "fnExactEncodeString", fn := fun _ => fun
  | [d] => { results := [.lit (.bool true)], args := [d] }
  | _ => none }
def fnExactEncodeStringRow : OpenClaim := { program := "ytgogdpcgmbbljaa", sum := "d4c58a78306d9519f07516cf7348e691347884c6ffa120f8720ba2dc305a1462", func := "loop.example/g00905/laws.FnExactEncodeString", spec := "fnExactEncodeString", apart := false }
def FnExactEncodeStringSaid : Prop := fnExactEncodeStringRow.holds Try.pinned (OpenSpec.ofChange fnExactEncodeStringSpec)

/-- ITS FALSE NEIGHBOUR: 'it returns false'. Refute it at one input. -/
def fnExactEncodeStringWrong : ChangeSpec := { name := "fnExactEncodeString", fn := fun _ => fun
  | [d] => { results := [.lit (.bool false)], args := [d] }
  | _ => none }
def FnExactEncodeStringWrongFalsely : Prop := fnExactEncodeStringRow.holds Try.pinned (OpenSpec.ofChange fnExactEncodeStringWrong)

/-- 'laws.FnExactDecodeUvarint': WHATEVER THE INPUT: true; the input reads as it did. -/
def fnExactDecodeUvarintSpec : ChangeSpec := { name := "fnExactDecodeUvarint", fn := fun _ => fun
  | [d] => { results := [.lit (.bool true)], args := [d] }
  | _ => none }
def fnExactDecodeUvarintRow : OpenClaim := { program := "ytgogdpcgmbbljaa", sum := "d4c58a78306d9519f07516cf7348e691347884c6ffa120f8720ba2dc305a1462", func := "loop.example/g00905/laws.FnExactDecodeUvarint", spec := "fnExactDecodeUvarint", apart := false }
def FnExactDecodeUvarintSaid : Prop := fnExactDecodeUvarintRow.holds Try.pinned (OpenSpec.ofChange fnExactDecodeUvarintSpec)

/-- ITS FALSE NEIGHBOUR: 'it returns false'. Refute it at one input. -/
def fnExactDecodeUvarintWrong : ChangeSpec := { name := "fnExactDecodeUvarint", fn := fun _ => fun
  | [d] => { results := [.lit (.bool false)], args := [d] }
  | _ => none }
def FnExactDecodeUvarintWrongFalsely : Prop := fnExactDecodeUvarintRow.holds Try.pinned (OpenSpec.ofChange fnExactDecodeUvarintWrong)

/-- 'laws.FnExactDecodeString': WHATEVER THE INPUT: true; the input reads as it did. -/
def fnExactDecodeStringSpec : ChangeSpec := { name := "fnExactDecodeString", fn := fun _ => fun
  | [d] => { results := [.lit (.bool true)], args := [d] }
  | _ => none }
def fnExactDecodeStringRow : OpenClaim := { program := "ytgogdpcgmbbljaa", sum := "d4c58a78306d9519f07516cf7348e691347884c6ffa120f8720ba2dc305a1462", func := "loop.example/g00905/laws.FnExactDecodeString", spec := "fnExactDecodeString", apart := false }
def FnExactDecodeStringSaid : Prop := fnExactDecodeStringRow.holds Try.pinned (OpenSpec.ofChange fnExactDecodeStringSpec)

/-- ITS FALSE NEIGHBOUR: 'it returns false'. Refute it at one input. -/
def fnExactDecodeStringWrong : ChangeSpec := { name := "fnExactDecodeString", fn := fun _ => fun
  | [d] => { results := [.lit (.bool false)], args := [d] }
  | _ => none }
def FnExactDecodeStringWrongFalsely : Prop := fnExactDecodeStringRow.holds Try.pinned (OpenSpec.ofChange fnExactDecodeStringWrong)

/- THE SECOND FORM. 'bulk': how many values and letters a reading holds, each counted each time it is reached (what is shared counts as often as it is met; a slice's spare places count too). A statement '..UptoSaid' is the law's where the arguments, and the package variables that the reading takes, are together of bulk at most 1048576: NARROWER than '..Said'. Prove '..Said' where nothing that the law and all that it calls make is longer than what came in: it says more and counts as full. Else prove '..UptoSaid'. A law counts once. -/
mutual
def uptoBulk {H : Type} : DataW H → Nat
  | .lit (.string bytes) => bytes.length + 1
  | .lit _ => 1
  | .nil => 1
  | .ptr d => uptoBulk d + 1
  | .slice elems spare => uptoBulkAll elems + uptoBulkAll spare + 1
  | .agg parts => uptoBulkAll parts + 1
  | .iface _ d => uptoBulk d + 1
  | .map entries => uptoBulkEntries entries + 1
  | .held _ => 1
def uptoBulkAll {H : Type} : List (DataW H) → Nat
  | [] => 0
  | d :: r => uptoBulk d + uptoBulkAll r
def uptoBulkEntries {H : Type} : List (Lit × DataW H) → Nat
  | [] => 0
  | x :: r => uptoBulkEntry x + uptoBulkEntries r
def uptoBulkEntry {H : Type} : Lit × DataW H → Nat
  | (.string bytes, d) => bytes.length + uptoBulk d + 1
  | (_, d) => uptoBulk d + 1
 end
def uptoSmall : (H : Type) → List (DataW H) → Bool := fun _ ds => decide (uptoBulkAll ds ≤ 1048576)
def OpenSpec.upto (s : _root_.Go.ChangeSpec) : _root_.Go.OpenSpec := { _root_.Go.OpenSpec.ofChange s with cond := some uptoSmall }

/-- 'laws.FnExactConstants', WHERE WHAT IT READS IS OF BULK AT MOST 1048576: true; the input reads as it did. -/
def fnExactConstantsUptoRow : OpenClaim := { program := "ytgogdpcgmbbljaa", sum := "d4c58a78306d9519f07516cf7348e691347884c6ffa120f8720ba2dc305a1462", func := "loop.example/g00905/laws.FnExactConstants", spec := "fnExactConstants", apart := false, narrowed := true }
def FnExactConstantsUptoSaid : Prop := fnExactConstantsUptoRow.holds Try.pinned (OpenSpec.upto fnExactConstantsSpec)

/-- 'laws.FnExactValidState', WHERE WHAT IT READS IS OF BULK AT MOST 1048576: true; the input reads as it did. -/
def fnExactValidStateUptoRow : OpenClaim := { program := "ytgogdpcgmbbljaa", sum := "d4c58a78306d9519f07516cf7348e691347884c6ffa120f8720ba2dc305a1462", func := "loop.example/g00905/laws.FnExactValidState", spec := "fnExactValidState", apart := false, narrowed := true }
def FnExactValidStateUptoSaid : Prop := fnExactValidStateUptoRow.holds Try.pinned (OpenSpec.upto fnExactValidStateSpec)

/-- 'laws.FnExactSeedFor', WHERE WHAT IT READS IS OF BULK AT MOST 1048576: true; the input reads as it did. -/
def fnExactSeedForUptoRow : OpenClaim := { program := "ytgogdpcgmbbljaa", sum := "d4c58a78306d9519f07516cf7348e691347884c6ffa120f8720ba2dc305a1462", func := "loop.example/g00905/laws.FnExactSeedFor", spec := "fnExactSeedFor", apart := false, narrowed := true }
def FnExactSeedForUptoSaid : Prop := fnExactSeedForUptoRow.holds Try.pinned (OpenSpec.upto fnExactSeedForSpec)

/-- 'laws.FnExactDecodeFixed', WHERE WHAT IT READS IS OF BULK AT MOST 1048576: true; the input reads as it did. -/
def fnExactDecodeFixedUptoRow : OpenClaim := { program := "ytgogdpcgmbbljaa", sum := "d4c58a78306d9519f07516cf7348e691347884c6ffa120f8720ba2dc305a1462", func := "loop.example/g00905/laws.FnExactDecodeFixed", spec := "fnExactDecodeFixed", apart := false, narrowed := true }
def FnExactDecodeFixedUptoSaid : Prop := fnExactDecodeFixedUptoRow.holds Try.pinned (OpenSpec.upto fnExactDecodeFixedSpec)

/-- 'laws.FnExactValidGeometry', WHERE WHAT IT READS IS OF BULK AT MOST 1048576: true; the input reads as it did. -/
def fnExactValidGeometryUptoRow : OpenClaim := { program := "ytgogdpcgmbbljaa", sum := "d4c58a78306d9519f07516cf7348e691347884c6ffa120f8720ba2dc305a1462", func := "loop.example/g00905/laws.FnExactValidGeometry", spec := "fnExactValidGeometry", apart := false, narrowed := true }
def FnExactValidGeometryUptoSaid : Prop := fnExactValidGeometryUptoRow.holds Try.pinned (OpenSpec.upto fnExactValidGeometrySpec)

/-- 'laws.FnExactEncodeUvarint', WHERE WHAT IT READS IS OF BULK AT MOST 1048576: true; the input reads as it did. -/
def fnExactEncodeUvarintUptoRow : OpenClaim := { program := "ytgogdpcgmbbljaa", sum := "d4c58a78306d9519f07516cf7348e691347884c6ffa120f8720ba2dc305a1462", func := "loop.example/g00905/laws.FnExactEncodeUvarint", spec := "fnExactEncodeUvarint", apart := false, narrowed := true }
def FnExactEncodeUvarintUptoSaid : Prop := fnExactEncodeUvarintUptoRow.holds Try.pinned (OpenSpec.upto fnExactEncodeUvarintSpec)

/-- 'laws.FnExactCodeName', WHERE WHAT IT READS IS OF BULK AT MOST 1048576: true; the input reads as it did. -/
def fnExactCodeNameUptoRow : OpenClaim := { program := "ytgogdpcgmbbljaa", sum := "d4c58a78306d9519f07516cf7348e691347884c6ffa120f8720ba2dc305a1462", func := "loop.example/g00905/laws.FnExactCodeName", spec := "fnExactCodeName", apart := false, narrowed := true }
def FnExactCodeNameUptoSaid : Prop := fnExactCodeNameUptoRow.holds Try.pinned (OpenSpec.upto fnExactCodeNameSpec)

/-- 'laws.FnExactCountOnes', WHERE WHAT IT READS IS OF BULK AT MOST 1048576: true; the input reads as it did. -/
def fnExactCountOnesUptoRow : OpenClaim := { program := "ytgogdpcgmbbljaa", sum := "d4c58a78306d9519f07516cf7348e691347884c6ffa120f8720ba2dc305a1462", func := "loop.example/g00905/laws.FnExactCountOnes", spec := "fnExactCountOnes", apart := false, narrowed := true }
def FnExactCountOnesUptoSaid : Prop := fnExactCountOnesUptoRow.holds Try.pinned (OpenSpec.upto fnExactCountOnesSpec)

/-- 'laws.FnExactEncodeFixed', WHERE WHAT IT READS IS OF BULK AT MOST 1048576: true; the input reads as it did. -/
def fnExactEncodeFixedUptoRow : OpenClaim := { program := "ytgogdpcgmbbljaa", sum := "d4c58a78306d9519f07516cf7348e691347884c6ffa120f8720ba2dc305a1462", func := "loop.example/g00905/laws.FnExactEncodeFixed", spec := "fnExactEncodeFixed", apart := false, narrowed := true }
def FnExactEncodeFixedUptoSaid : Prop := fnExactEncodeFixedUptoRow.holds Try.pinned (OpenSpec.upto fnExactEncodeFixedSpec)

/-- 'laws.FnExactEncodeString', WHERE WHAT IT READS IS OF BULK AT MOST 1048576: true; the input reads as it did. -/
def fnExactEncodeStringUptoRow : OpenClaim := { program := "ytgogdpcgmbbljaa", sum := "d4c58a78306d9519f07516cf7348e691347884c6ffa120f8720ba2dc305a1462", func := "loop.example/g00905/laws.FnExactEncodeString", spec := "fnExactEncodeString", apart := false, narrowed := true }
def FnExactEncodeStringUptoSaid : Prop := fnExactEncodeStringUptoRow.holds Try.pinned (OpenSpec.upto fnExactEncodeStringSpec)

/-- 'laws.FnExactDecodeUvarint', WHERE WHAT IT READS IS OF BULK AT MOST 1048576: true; the input reads as it did. -/
def fnExactDecodeUvarintUptoRow : OpenClaim := { program := "ytgogdpcgmbbljaa", sum := "d4c58a78306d9519f07516cf7348e691347884c6ffa120f8720ba2dc305a1462", func := "loop.example/g00905/laws.FnExactDecodeUvarint", spec := "fnExactDecodeUvarint", apart := false, narrowed := true }
def FnExactDecodeUvarintUptoSaid : Prop := fnExactDecodeUvarintUptoRow.holds Try.pinned (OpenSpec.upto fnExactDecodeUvarintSpec)

/-- 'laws.FnExactDecodeString', WHERE WHAT IT READS IS OF BULK AT MOST 1048576: true; the input reads as it did. -/
def fnExactDecodeStringUptoRow : OpenClaim := { program := "ytgogdpcgmbbljaa", sum := "d4c58a78306d9519f07516cf7348e691347884c6ffa120f8720ba2dc305a1462", func := "loop.example/g00905/laws.FnExactDecodeString", spec := "fnExactDecodeString", apart := false, narrowed := true }
def FnExactDecodeStringUptoSaid : Prop := fnExactDecodeStringUptoRow.holds Try.pinned (OpenSpec.upto fnExactDecodeStringSpec)

end Rows
end Go.Proofs.Ytgogdpcgmbbljaa
