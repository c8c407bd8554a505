/-
  No cell of these rows narrows 'for every input' (looked for: loops, veiled, ifaces, maps, wideKeys, modest, calm, conditions, laid).
  DERIVED. THE GIVEN ROWS OF THIS SEAT. 12 by the template 'for every input the law returns true; each argument reads behind the call as it read before'; 0 by the template 'total and deterministic' (their statements: YtenmffpkdfbhbaaTotals.lean).
  GIVEN WITH THE SEED: the statements are not yours to turn. If you find one false, say at which input.
  Laid BY PROGRAM, IN A SANDBOX (cutbox-rows.mjs): the forced cells as the released guide's own fill.sh prints them over the translation 55700a44959bd786… (all of the seat's roots in one cut). By AI agents, Wed Nov 11 2026. No macro, syntax, notation, axiom, sorry.
-/
import Derived.Test.YtenmffpkdfbhbaaChecked
import GoSem.Claim
import GoSem.ClaimJoined
import GoSem.ClaimMapViews
import Derived.JoinedTies
import Derived.KernelRfl
namespace Go.Proofs.Ytenmffpkdfbhbaa
/- THE CELL 'sum', in the pinned program and in every row, IS THE sha256 OF THE DUMP (.gsa) THAT YtenmffpkdfbhbaaProg.lean LOADS. Nothing in Lean hashes anything: it is a label: what it is worth is what the hold of that sum in a sandbox is worth. -/
noncomputable def Try.pinned : Pinned := { name := "ytenmffpkdfbhbaa", sum := "55700a44959bd786e2f800c2a1291ee7444d0c6980a690b245406854537d40b9", checked := Try.checked }
namespace Rows
def none {H : Type} : Left H := { results := [], args := [] }

/-- 'laws.FnExactDestroyedPage': WHATEVER THE INPUT: true; the input reads as it did. -/
def fnExactDestroyedPageSpec : ChangeSpec := { name := "fnExactDestroyedPage", fn := fun _ => fun
  | [] => { results := [.lit (.bool true)], args := [] }
  | _ => none }
def fnExactDestroyedPageRow : OpenClaim := { program := "ytenmffpkdfbhbaa", sum := "55700a44959bd786e2f800c2a1291ee7444d0c6980a690b245406854537d40b9", func := "loop.example/g00905/laws.FnExactDestroyedPage", spec := "fnExactDestroyedPage", inPlace := ["internal/abi.NoEscape", "internal/bytealg.MakeNoZero"], apart := false }
def FnExactDestroyedPageSaid : Prop := fnExactDestroyedPageRow.holds Try.pinned (OpenSpec.ofChange fnExactDestroyedPageSpec)

/-- ITS FALSE NEIGHBOUR: 'it returns false'. Refute it at one input. -/
def fnExactDestroyedPageWrong : ChangeSpec := { name := "fnExactDestroyedPage", fn := fun _ => fun
  | [] => { results := [.lit (.bool false)], args := [] }
  | _ => none }
def FnExactDestroyedPageWrongFalsely : Prop := fnExactDestroyedPageRow.holds Try.pinned (OpenSpec.ofChange fnExactDestroyedPageWrong)

/-- 'laws.FnExactErasedPage': WHATEVER THE INPUT: true; the input reads as it did. -/
def fnExactErasedPageSpec : ChangeSpec := { name := "fnExactErasedPage", fn := fun _ => fun
  | [] => { results := [.lit (.bool true)], args := [] }
  | _ => none }
def fnExactErasedPageRow : OpenClaim := { program := "ytenmffpkdfbhbaa", sum := "55700a44959bd786e2f800c2a1291ee7444d0c6980a690b245406854537d40b9", func := "loop.example/g00905/laws.FnExactErasedPage", spec := "fnExactErasedPage", inPlace := ["internal/abi.NoEscape", "internal/bytealg.MakeNoZero"], apart := false }
def FnExactErasedPageSaid : Prop := fnExactErasedPageRow.holds Try.pinned (OpenSpec.ofChange fnExactErasedPageSpec)

/-- ITS FALSE NEIGHBOUR: 'it returns false'. Refute it at one input. -/
def fnExactErasedPageWrong : ChangeSpec := { name := "fnExactErasedPage", fn := fun _ => fun
  | [] => { results := [.lit (.bool false)], args := [] }
  | _ => none }
def FnExactErasedPageWrongFalsely : Prop := fnExactErasedPageRow.holds Try.pinned (OpenSpec.ofChange fnExactErasedPageWrong)

/-- 'laws.FnExactIsErased': WHATEVER THE INPUT: true; the input reads as it did. -/
def fnExactIsErasedSpec : ChangeSpec := { name := "fnExactIsErased", fn := fun _ => fun
  | [d] => { results := [.lit (.bool true)], args := [d] }
  | _ => none }
def fnExactIsErasedRow : OpenClaim := { program := "ytenmffpkdfbhbaa", sum := "55700a44959bd786e2f800c2a1291ee7444d0c6980a690b245406854537d40b9", func := "loop.example/g00905/laws.FnExactIsErased", spec := "fnExactIsErased", inPlace := ["internal/abi.NoEscape", "internal/bytealg.MakeNoZero"], apart := false }
def FnExactIsErasedSaid : Prop := fnExactIsErasedRow.holds Try.pinned (OpenSpec.ofChange fnExactIsErasedSpec)

/-- ITS FALSE NEIGHBOUR: 'it returns false'. Refute it at one input. -/
def fnExactIsErasedWrong : ChangeSpec := { name := "fnExactIsErased", fn := fun _ => fun
  | [d] => { results := [.lit (.bool false)], args := [d] }
  | _ => none }
def FnExactIsErasedWrongFalsely : Prop := fnExactIsErasedRow.holds Try.pinned (OpenSpec.ofChange fnExactIsErasedWrong)

/-- 'laws.FnExactTornPage': WHATEVER THE INPUT: true; the input reads as it did. -/
def fnExactTornPageSpec : ChangeSpec := { name := "fnExactTornPage", fn := fun _ => fun
  | [d1, d2] => { results := [.lit (.bool true)], args := [d1, d2] }
  | _ => none }
def fnExactTornPageRow : OpenClaim := { program := "ytenmffpkdfbhbaa", sum := "55700a44959bd786e2f800c2a1291ee7444d0c6980a690b245406854537d40b9", func := "loop.example/g00905/laws.FnExactTornPage", spec := "fnExactTornPage", inPlace := ["internal/abi.NoEscape", "internal/bytealg.MakeNoZero"], apart := false }
def FnExactTornPageSaid : Prop := fnExactTornPageRow.holds Try.pinned (OpenSpec.ofChange fnExactTornPageSpec)

/-- ITS FALSE NEIGHBOUR: 'it returns false'. Refute it at one input. -/
def fnExactTornPageWrong : ChangeSpec := { name := "fnExactTornPage", fn := fun _ => fun
  | [d1, d2] => { results := [.lit (.bool false)], args := [d1, d2] }
  | _ => none }
def FnExactTornPageWrongFalsely : Prop := fnExactTornPageRow.holds Try.pinned (OpenSpec.ofChange fnExactTornPageWrong)

/-- 'laws.FnExactGroupComplete': WHATEVER THE INPUT: true; the input reads as it did. -/
def fnExactGroupCompleteSpec : ChangeSpec := { name := "fnExactGroupComplete", fn := fun _ => fun
  | [d1, d2, d3] => { results := [.lit (.bool true)], args := [d1, d2, d3] }
  | _ => none }
def fnExactGroupCompleteRow : OpenClaim := { program := "ytenmffpkdfbhbaa", sum := "55700a44959bd786e2f800c2a1291ee7444d0c6980a690b245406854537d40b9", func := "loop.example/g00905/laws.FnExactGroupComplete", spec := "fnExactGroupComplete", unfollowed := true, recurses := true, apart := false }
def FnExactGroupCompleteSaid : Prop := fnExactGroupCompleteRow.holds Try.pinned (OpenSpec.ofChange fnExactGroupCompleteSpec)

/-- ITS FALSE NEIGHBOUR: 'it returns false'. Refute it at one input. -/
def fnExactGroupCompleteWrong : ChangeSpec := { name := "fnExactGroupComplete", fn := fun _ => fun
  | [d1, d2, d3] => { results := [.lit (.bool false)], args := [d1, d2, d3] }
  | _ => none }
def FnExactGroupCompleteWrongFalsely : Prop := fnExactGroupCompleteRow.holds Try.pinned (OpenSpec.ofChange fnExactGroupCompleteWrong)

/-- 'laws.FnExactPhysOf': WHATEVER THE INPUT: true; the input reads as it did. -/
def fnExactPhysOfSpec : ChangeSpec := { name := "fnExactPhysOf", fn := fun _ => fun
  | [d1, d2] => { results := [.lit (.bool true)], args := [d1, d2] }
  | _ => none }
def fnExactPhysOfRow : OpenClaim := { program := "ytenmffpkdfbhbaa", sum := "55700a44959bd786e2f800c2a1291ee7444d0c6980a690b245406854537d40b9", func := "loop.example/g00905/laws.FnExactPhysOf", spec := "fnExactPhysOf", apart := false }
def FnExactPhysOfSaid : Prop := fnExactPhysOfRow.holds Try.pinned (OpenSpec.ofChange fnExactPhysOfSpec)

/-- ITS FALSE NEIGHBOUR: 'it returns false'. Refute it at one input. -/
def fnExactPhysOfWrong : ChangeSpec := { name := "fnExactPhysOf", fn := fun _ => fun
  | [d1, d2] => { results := [.lit (.bool false)], args := [d1, d2] }
  | _ => none }
def FnExactPhysOfWrongFalsely : Prop := fnExactPhysOfRow.holds Try.pinned (OpenSpec.ofChange fnExactPhysOfWrong)

/-- 'laws.FnExactNewMap': WHATEVER THE INPUT: true; the input reads as it did. -/
def fnExactNewMapSpec : ChangeSpec := { name := "fnExactNewMap", fn := fun _ => fun
  | [d1, d2, d3] => { results := [.lit (.bool true)], args := [d1, d2, d3] }
  | _ => none }
def fnExactNewMapRow : OpenClaim := { program := "ytenmffpkdfbhbaa", sum := "55700a44959bd786e2f800c2a1291ee7444d0c6980a690b245406854537d40b9", func := "loop.example/g00905/laws.FnExactNewMap", spec := "fnExactNewMap", apart := false }
def FnExactNewMapSaid : Prop := fnExactNewMapRow.holds Try.pinned (OpenSpec.ofChange fnExactNewMapSpec)

/-- ITS FALSE NEIGHBOUR: 'it returns false'. Refute it at one input. -/
def fnExactNewMapWrong : ChangeSpec := { name := "fnExactNewMap", fn := fun _ => fun
  | [d1, d2, d3] => { results := [.lit (.bool false)], args := [d1, d2, d3] }
  | _ => none }
def FnExactNewMapWrongFalsely : Prop := fnExactNewMapRow.holds Try.pinned (OpenSpec.ofChange fnExactNewMapWrong)

/-- 'laws.FnExactMappedPages': WHATEVER THE INPUT: true; the input reads as it did. -/
def fnExactMappedPagesSpec : ChangeSpec := { name := "fnExactMappedPages", fn := fun _ => fun
  | [d] => { results := [.lit (.bool true)], args := [d] }
  | _ => none }
def fnExactMappedPagesRow : OpenClaim := { program := "ytenmffpkdfbhbaa", sum := "55700a44959bd786e2f800c2a1291ee7444d0c6980a690b245406854537d40b9", func := "loop.example/g00905/laws.FnExactMappedPages", spec := "fnExactMappedPages", apart := false }
def FnExactMappedPagesSaid : Prop := fnExactMappedPagesRow.holds Try.pinned (OpenSpec.ofChange fnExactMappedPagesSpec)

/-- ITS FALSE NEIGHBOUR: 'it returns false'. Refute it at one input. -/
def fnExactMappedPagesWrong : ChangeSpec := { name := "fnExactMappedPages", fn := fun _ => fun
  | [d] => { results := [.lit (.bool false)], args := [d] }
  | _ => none }
def FnExactMappedPagesWrongFalsely : Prop := fnExactMappedPagesRow.holds Try.pinned (OpenSpec.ofChange fnExactMappedPagesWrong)

/-- 'laws.FnExactNewestOf': WHATEVER THE INPUT: true; the input reads as it did. -/
def fnExactNewestOfSpec : ChangeSpec := { name := "fnExactNewestOf", fn := fun _ => fun
  | [d1, d2] => { results := [.lit (.bool true)], args := [d1, d2] }
  | _ => none }
def fnExactNewestOfRow : OpenClaim := { program := "ytenmffpkdfbhbaa", sum := "55700a44959bd786e2f800c2a1291ee7444d0c6980a690b245406854537d40b9", func := "loop.example/g00905/laws.FnExactNewestOf", spec := "fnExactNewestOf", unfollowed := true, recurses := true, apart := false }
def FnExactNewestOfSaid : Prop := fnExactNewestOfRow.holds Try.pinned (OpenSpec.ofChange fnExactNewestOfSpec)

/-- ITS FALSE NEIGHBOUR: 'it returns false'. Refute it at one input. -/
def fnExactNewestOfWrong : ChangeSpec := { name := "fnExactNewestOf", fn := fun _ => fun
  | [d1, d2] => { results := [.lit (.bool false)], args := [d1, d2] }
  | _ => none }
def FnExactNewestOfWrongFalsely : Prop := fnExactNewestOfRow.holds Try.pinned (OpenSpec.ofChange fnExactNewestOfWrong)

/-- 'laws.FnExactSameFlash': WHATEVER THE INPUT: true; the input reads as it did. -/
def fnExactSameFlashSpec : ChangeSpec := { name := "fnExactSameFlash", fn := fun _ => fun
  | [d1, d2] => { results := [.lit (.bool true)], args := [d1, d2] }
  | _ => none }
def fnExactSameFlashRow : OpenClaim := { program := "ytenmffpkdfbhbaa", sum := "55700a44959bd786e2f800c2a1291ee7444d0c6980a690b245406854537d40b9", func := "loop.example/g00905/laws.FnExactSameFlash", spec := "fnExactSameFlash", unfollowed := true, recurses := true, apart := false }
def FnExactSameFlashSaid : Prop := fnExactSameFlashRow.holds Try.pinned (OpenSpec.ofChange fnExactSameFlashSpec)

/-- ITS FALSE NEIGHBOUR: 'it returns false'. Refute it at one input. -/
def fnExactSameFlashWrong : ChangeSpec := { name := "fnExactSameFlash", fn := fun _ => fun
  | [d1, d2] => { results := [.lit (.bool false)], args := [d1, d2] }
  | _ => none }
def FnExactSameFlashWrongFalsely : Prop := fnExactSameFlashRow.holds Try.pinned (OpenSpec.ofChange fnExactSameFlashWrong)

/-- 'laws.FnExactValidFlash': WHATEVER THE INPUT: true; the input reads as it did. -/
def fnExactValidFlashSpec : ChangeSpec := { name := "fnExactValidFlash", fn := fun _ => fun
  | [d] => { results := [.lit (.bool true)], args := [d] }
  | _ => none }
def fnExactValidFlashRow : OpenClaim := { program := "ytenmffpkdfbhbaa", sum := "55700a44959bd786e2f800c2a1291ee7444d0c6980a690b245406854537d40b9", func := "loop.example/g00905/laws.FnExactValidFlash", spec := "fnExactValidFlash", unfollowed := true, recurses := true, apart := false }
def FnExactValidFlashSaid : Prop := fnExactValidFlashRow.holds Try.pinned (OpenSpec.ofChange fnExactValidFlashSpec)

/-- ITS FALSE NEIGHBOUR: 'it returns false'. Refute it at one input. -/
def fnExactValidFlashWrong : ChangeSpec := { name := "fnExactValidFlash", fn := fun _ => fun
  | [d] => { results := [.lit (.bool false)], args := [d] }
  | _ => none }
def FnExactValidFlashWrongFalsely : Prop := fnExactValidFlashRow.holds Try.pinned (OpenSpec.ofChange fnExactValidFlashWrong)

/-- 'laws.FnExactNewFlash': WHATEVER THE INPUT: true; the input reads as it did. -/
def fnExactNewFlashSpec : ChangeSpec := { name := "fnExactNewFlash", fn := fun _ => fun
  | [d] => { results := [.lit (.bool true)], args := [d] }
  | _ => none }
def fnExactNewFlashRow : OpenClaim := { program := "ytenmffpkdfbhbaa", sum := "55700a44959bd786e2f800c2a1291ee7444d0c6980a690b245406854537d40b9", func := "loop.example/g00905/laws.FnExactNewFlash", spec := "fnExactNewFlash", apart := false }
def FnExactNewFlashSaid : Prop := fnExactNewFlashRow.holds Try.pinned (OpenSpec.ofChange fnExactNewFlashSpec)

/-- ITS FALSE NEIGHBOUR: 'it returns false'. Refute it at one input. -/
def fnExactNewFlashWrong : ChangeSpec := { name := "fnExactNewFlash", fn := fun _ => fun
  | [d] => { results := [.lit (.bool false)], args := [d] }
  | _ => none }
def FnExactNewFlashWrongFalsely : Prop := fnExactNewFlashRow.holds Try.pinned (OpenSpec.ofChange fnExactNewFlashWrong)

/- THE SECOND FORM. 'bulk': how many values and letters a reading holds, each counted each time it is reached (what is shared counts as often as it is met; a slice's spare places count too). A statement '..UptoSaid' is the law's where the arguments, and the package variables that the reading takes, are together of bulk at most 1048576: NARROWER than '..Said'. Prove '..Said' where nothing that the law and all that it calls make is longer than what came in: it says more and counts as full. Else prove '..UptoSaid'. A law counts once. -/
mutual
def uptoBulk {H : Type} : DataW H → Nat
  | .lit (.string bytes) => bytes.length + 1
  | .lit _ => 1
  | .nil => 1
  | .ptr d => uptoBulk d + 1
  | .slice elems spare => uptoBulkAll elems + uptoBulkAll spare + 1
  | .agg parts => uptoBulkAll parts + 1
  | .iface _ d => uptoBulk d + 1
  | .map entries => uptoBulkEntries entries + 1
  | .held _ => 1
def uptoBulkAll {H : Type} : List (DataW H) → Nat
  | [] => 0
  | d :: r => uptoBulk d + uptoBulkAll r
def uptoBulkEntries {H : Type} : List (Lit × DataW H) → Nat
  | [] => 0
  | x :: r => uptoBulkEntry x + uptoBulkEntries r
def uptoBulkEntry {H : Type} : Lit × DataW H → Nat
  | (.string bytes, d) => bytes.length + uptoBulk d + 1
  | (_, d) => uptoBulk d + 1
 end
def uptoSmall : (H : Type) → List (DataW H) → Bool := fun _ ds => decide (uptoBulkAll ds ≤ 1048576)
def OpenSpec.upto (s : _root_.Go.ChangeSpec) : _root_.Go.OpenSpec := { _root_.Go.OpenSpec.ofChange s with cond := some uptoSmall }

/-- 'laws.FnExactDestroyedPage', WHERE WHAT IT READS IS OF BULK AT MOST 1048576: true; the input reads as it did. -/
def fnExactDestroyedPageUptoRow : OpenClaim := { program := "ytenmffpkdfbhbaa", sum := "55700a44959bd786e2f800c2a1291ee7444d0c6980a690b245406854537d40b9", func := "loop.example/g00905/laws.FnExactDestroyedPage", spec := "fnExactDestroyedPage", inPlace := ["internal/abi.NoEscape", "internal/bytealg.MakeNoZero"], apart := false, narrowed := true }
def FnExactDestroyedPageUptoSaid : Prop := fnExactDestroyedPageUptoRow.holds Try.pinned (OpenSpec.upto fnExactDestroyedPageSpec)

/-- 'laws.FnExactErasedPage', WHERE WHAT IT READS IS OF BULK AT MOST 1048576: true; the input reads as it did. -/
def fnExactErasedPageUptoRow : OpenClaim := { program := "ytenmffpkdfbhbaa", sum := "55700a44959bd786e2f800c2a1291ee7444d0c6980a690b245406854537d40b9", func := "loop.example/g00905/laws.FnExactErasedPage", spec := "fnExactErasedPage", inPlace := ["internal/abi.NoEscape", "internal/bytealg.MakeNoZero"], apart := false, narrowed := true }
def FnExactErasedPageUptoSaid : Prop := fnExactErasedPageUptoRow.holds Try.pinned (OpenSpec.upto fnExactErasedPageSpec)

/-- 'laws.FnExactIsErased', WHERE WHAT IT READS IS OF BULK AT MOST 1048576: true; the input reads as it did. -/
def fnExactIsErasedUptoRow : OpenClaim := { program := "ytenmffpkdfbhbaa", sum := "55700a44959bd786e2f800c2a1291ee7444d0c6980a690b245406854537d40b9", func := "loop.example/g00905/laws.FnExactIsErased", spec := "fnExactIsErased", inPlace := ["internal/abi.NoEscape", "internal/bytealg.MakeNoZero"], apart := false, narrowed := true }
def FnExactIsErasedUptoSaid : Prop := fnExactIsErasedUptoRow.holds Try.pinned (OpenSpec.upto fnExactIsErasedSpec)

/-- 'laws.FnExactTornPage', WHERE WHAT IT READS IS OF BULK AT MOST 1048576: true; the input reads as it did. -/
def fnExactTornPageUptoRow : OpenClaim := { program := "ytenmffpkdfbhbaa", sum := "55700a44959bd786e2f800c2a1291ee7444d0c6980a690b245406854537d40b9", func := "loop.example/g00905/laws.FnExactTornPage", spec := "fnExactTornPage", inPlace := ["internal/abi.NoEscape", "internal/bytealg.MakeNoZero"], apart := false, narrowed := true }
def FnExactTornPageUptoSaid : Prop := fnExactTornPageUptoRow.holds Try.pinned (OpenSpec.upto fnExactTornPageSpec)

/-- 'laws.FnExactGroupComplete', WHERE WHAT IT READS IS OF BULK AT MOST 1048576: true; the input reads as it did. -/
def fnExactGroupCompleteUptoRow : OpenClaim := { program := "ytenmffpkdfbhbaa", sum := "55700a44959bd786e2f800c2a1291ee7444d0c6980a690b245406854537d40b9", func := "loop.example/g00905/laws.FnExactGroupComplete", spec := "fnExactGroupComplete", unfollowed := true, recurses := true, apart := false, narrowed := true }
def FnExactGroupCompleteUptoSaid : Prop := fnExactGroupCompleteUptoRow.holds Try.pinned (OpenSpec.upto fnExactGroupCompleteSpec)

/-- 'laws.FnExactPhysOf', WHERE WHAT IT READS IS OF BULK AT MOST 1048576: true; the input reads as it did. -/
def fnExactPhysOfUptoRow : OpenClaim := { program := "ytenmffpkdfbhbaa", sum := "55700a44959bd786e2f800c2a1291ee7444d0c6980a690b245406854537d40b9", func := "loop.example/g00905/laws.FnExactPhysOf", spec := "fnExactPhysOf", apart := false, narrowed := true }
def FnExactPhysOfUptoSaid : Prop := fnExactPhysOfUptoRow.holds Try.pinned (OpenSpec.upto fnExactPhysOfSpec)

/-- 'laws.FnExactNewMap', WHERE WHAT IT READS IS OF BULK AT MOST 1048576: true; the input reads as it did. -/
def fnExactNewMapUptoRow : OpenClaim := { program := "ytenmffpkdfbhbaa", sum := "55700a44959bd786e2f800c2a1291ee7444d0c6980a690b245406854537d40b9", func := "loop.example/g00905/laws.FnExactNewMap", spec := "fnExactNewMap", apart := false, narrowed := true }
def FnExactNewMapUptoSaid : Prop := fnExactNewMapUptoRow.holds Try.pinned (OpenSpec.upto fnExactNewMapSpec)

/-- 'laws.FnExactMappedPages', WHERE WHAT IT READS IS OF BULK AT MOST 1048576: true; the input reads as it did. -/
def fnExactMappedPagesUptoRow : OpenClaim := { program := "ytenmffpkdfbhbaa", sum := "55700a44959bd786e2f800c2a1291ee7444d0c6980a690b245406854537d40b9", func := "loop.example/g00905/laws.FnExactMappedPages", spec := "fnExactMappedPages", apart := false, narrowed := true }
def FnExactMappedPagesUptoSaid : Prop := fnExactMappedPagesUptoRow.holds Try.pinned (OpenSpec.upto fnExactMappedPagesSpec)

/-- 'laws.FnExactNewestOf', WHERE WHAT IT READS IS OF BULK AT MOST 1048576: true; the input reads as it did. -/
def fnExactNewestOfUptoRow : OpenClaim := { program := "ytenmffpkdfbhbaa", sum := "55700a44959bd786e2f800c2a1291ee7444d0c6980a690b245406854537d40b9", func := "loop.example/g00905/laws.FnExactNewestOf", spec := "fnExactNewestOf", unfollowed := true, recurses := true, apart := false, narrowed := true }
def FnExactNewestOfUptoSaid : Prop := fnExactNewestOfUptoRow.holds Try.pinned (OpenSpec.upto fnExactNewestOfSpec)

/-- 'laws.FnExactSameFlash', WHERE WHAT IT READS IS OF BULK AT MOST 1048576: true; the input reads as it did. -/
def fnExactSameFlashUptoRow : OpenClaim := { program := "ytenmffpkdfbhbaa", sum := "55700a44959bd786e2f800c2a1291ee7444d0c6980a690b245406854537d40b9", func := "loop.example/g00905/laws.FnExactSameFlash", spec := "fnExactSameFlash", unfollowed := true, recurses := true, apart := false, narrowed := true }
def FnExactSameFlashUptoSaid : Prop := fnExactSameFlashUptoRow.holds Try.pinned (OpenSpec.upto fnExactSameFlashSpec)

/-- 'laws.FnExactValidFlash', WHERE WHAT IT READS IS OF BULK AT MOST 1048576: true; the input reads as it did. -/
def fnExactValidFlashUptoRow : OpenClaim := { program := "ytenmffpkdfbhbaa", sum := "55700a44959bd786e2f800c2a1291ee7444d0c6980a690b245406854537d40b9", func := "loop.example/g00905/laws.FnExactValidFlash", spec := "fnExactValidFlash", unfollowed := true, recurses := true, apart := false, narrowed := true }
def FnExactValidFlashUptoSaid : Prop := fnExactValidFlashUptoRow.holds Try.pinned (OpenSpec.upto fnExactValidFlashSpec)

/-- 'laws.FnExactNewFlash', WHERE WHAT IT READS IS OF BULK AT MOST 1048576: true; the input reads as it did. -/
def fnExactNewFlashUptoRow : OpenClaim := { program := "ytenmffpkdfbhbaa", sum := "55700a44959bd786e2f800c2a1291ee7444d0c6980a690b245406854537d40b9", func := "loop.example/g00905/laws.FnExactNewFlash", spec := "fnExactNewFlash", apart := false, narrowed := true }
def FnExactNewFlashUptoSaid : Prop := fnExactNewFlashUptoRow.holds Try.pinned (OpenSpec.upto fnExactNewFlashSpec)

end Rows
end Go.Proofs.Ytenmffpkdfbhbaa
