/-
  No cell of these rows narrows 'for every input' (looked for: loops, veiled, ifaces, maps, wideKeys, modest, calm, conditions, laid).
  DERIVED. THE GIVEN ROWS OF THIS SEAT. 13 by the template 'for every input the law returns true; each argument reads behind the call as it read before'; 0 by the template 'total and deterministic' (their statements: YtohmemckdogljaaTotals.lean).
  GIVEN WITH THE SEED: the statements are not yours to turn. If you find one false, say at which input.
  Laid BY PROGRAM, IN A SANDBOX (cutbox-rows.mjs): the forced cells as the released guide's own fill.sh prints them over the translation f171abaf58d04a97… (all of the seat's roots in one cut). By AI agents, Wed Nov 11 2026. No macro, syntax, notation, axiom, sorry.
-/
import Derived.Test.YtohmemckdogljaaChecked
import GoSem.Claim
import GoSem.ClaimJoined
import GoSem.ClaimMapViews
import Derived.JoinedTies
import Derived.KernelRfl
namespace Go.Proofs.Ytohmemckdogljaa
/- THE CELL 'sum', in the pinned program and in every row, IS THE sha256 OF THE DUMP (.gsa) THAT YtohmemckdogljaaProg.lean LOADS. Nothing in Lean hashes anything: it is a label: what it is worth is what the hold of that sum in a sandbox is worth. -/
noncomputable def Try.pinned : Pinned := { name := "ytohmemckdogljaa", sum := "f171abaf58d04a9748ac3a780d90cf3fe361e245d2af4868c398b62cc5245c12", checked := Try.checked }
namespace Rows
def none {H : Type} : Left H := { results := [], args := [] }

/-- 'laws.FnExactWalkPath': WHATEVER THE INPUT: true; the input reads as it did. -/
def fnExactWalkPathSpec : ChangeSpec := { name := "fnExactWalkPath", fn := fun _ => fun
  | [d1, d2, d3] => { results := [.lit (.bool true)], args := [d1, d2, d3] }
  | _ => none }
def fnExactWalkPathRow : OpenClaim := { program := "ytohmemckdogljaa", sum := "f171abaf58d04a9748ac3a780d90cf3fe361e245d2af4868c398b62cc5245c12", func := "loop.example/hagioscope/laws.FnExactWalkPath", spec := "fnExactWalkPath", unfollowed := true, recurses := true, apart := false }
def FnExactWalkPathSaid : Prop := fnExactWalkPathRow.holds Try.pinned (OpenSpec.ofChange fnExactWalkPathSpec)

/-- ITS FALSE NEIGHBOUR: 'it returns false'. Refute it at one input. -/
def fnExactWalkPathWrong : ChangeSpec := { name := "fnExactWalkPath", fn := fun _ => fun
  | [d1, d2, d3] => { results := [.lit (.bool false)], args := [d1, d2, d3] }
  | _ => none }
def FnExactWalkPathWrongFalsely : Prop := fnExactWalkPathRow.holds Try.pinned (OpenSpec.ofChange fnExactWalkPathWrong)

/-- 'laws.FnExactWalkParts': WHATEVER THE INPUT: true; the input reads as it did. -/
def fnExactWalkPartsSpec : ChangeSpec := { name := "fnExactWalkParts", fn := fun _ => fun
  | [d] => { results := [.lit (.bool true)], args := [d] }
  | _ => none }
def fnExactWalkPartsRow : OpenClaim := { program := "ytohmemckdogljaa", sum := "f171abaf58d04a9748ac3a780d90cf3fe361e245d2af4868c398b62cc5245c12", func := "loop.example/hagioscope/laws.FnExactWalkParts", spec := "fnExactWalkParts", unfollowed := true, recurses := true, apart := false }
def FnExactWalkPartsSaid : Prop := fnExactWalkPartsRow.holds Try.pinned (OpenSpec.ofChange fnExactWalkPartsSpec)

/-- ITS FALSE NEIGHBOUR: 'it returns false'. Refute it at one input. -/
def fnExactWalkPartsWrong : ChangeSpec := { name := "fnExactWalkParts", fn := fun _ => fun
  | [d] => { results := [.lit (.bool false)], args := [d] }
  | _ => none }
def FnExactWalkPartsWrongFalsely : Prop := fnExactWalkPartsRow.holds Try.pinned (OpenSpec.ofChange fnExactWalkPartsWrong)

/-- 'laws.FnExactWalkCore': WHATEVER THE INPUT: true; the input reads as it did. -/
def fnExactWalkCoreSpec : ChangeSpec := { name := "fnExactWalkCore", fn := fun _ => fun
  | [d] => { results := [.lit (.bool true)], args := [d] }
  | _ => none }
def fnExactWalkCoreRow : OpenClaim := { program := "ytohmemckdogljaa", sum := "f171abaf58d04a9748ac3a780d90cf3fe361e245d2af4868c398b62cc5245c12", func := "loop.example/hagioscope/laws.FnExactWalkCore", spec := "fnExactWalkCore", unfollowed := true, recurses := true, apart := false }
def FnExactWalkCoreSaid : Prop := fnExactWalkCoreRow.holds Try.pinned (OpenSpec.ofChange fnExactWalkCoreSpec)

/-- ITS FALSE NEIGHBOUR: 'it returns false'. Refute it at one input. -/
def fnExactWalkCoreWrong : ChangeSpec := { name := "fnExactWalkCore", fn := fun _ => fun
  | [d] => { results := [.lit (.bool false)], args := [d] }
  | _ => none }
def FnExactWalkCoreWrongFalsely : Prop := fnExactWalkCoreRow.holds Try.pinned (OpenSpec.ofChange fnExactWalkCoreWrong)

/-- 'laws.FnExactGraphOk': WHATEVER THE INPUT: true; the input reads as it did. -/
def fnExactGraphOkSpec : ChangeSpec := { name := "fnExactGraphOk", fn := fun _ => fun
  | [d] => { results := [.lit (.bool true)], args := [d] }
  | _ => none }
def fnExactGraphOkRow : OpenClaim := { program := "ytohmemckdogljaa", sum := "f171abaf58d04a9748ac3a780d90cf3fe361e245d2af4868c398b62cc5245c12", func := "loop.example/hagioscope/laws.FnExactGraphOk", spec := "fnExactGraphOk", unfollowed := true, recurses := true, apart := false }
def FnExactGraphOkSaid : Prop := fnExactGraphOkRow.holds Try.pinned (OpenSpec.ofChange fnExactGraphOkSpec)

/-- ITS FALSE NEIGHBOUR: 'it returns false'. Refute it at one input. -/
def fnExactGraphOkWrong : ChangeSpec := { name := "fnExactGraphOk", fn := fun _ => fun
  | [d] => { results := [.lit (.bool false)], args := [d] }
  | _ => none }
def FnExactGraphOkWrongFalsely : Prop := fnExactGraphOkRow.holds Try.pinned (OpenSpec.ofChange fnExactGraphOkWrong)

/-- 'laws.FnExactGraphView': WHATEVER THE INPUT: true; the input reads as it did. -/
def fnExactGraphViewSpec : ChangeSpec := { name := "fnExactGraphView", fn := fun _ => fun
  | [d1, d2] => { results := [.lit (.bool true)], args := [d1, d2] }
  | _ => none }
def fnExactGraphViewRow : OpenClaim := { program := "ytohmemckdogljaa", sum := "f171abaf58d04a9748ac3a780d90cf3fe361e245d2af4868c398b62cc5245c12", func := "loop.example/hagioscope/laws.FnExactGraphView", spec := "fnExactGraphView", unfollowed := true, recurses := true, apart := false }
def FnExactGraphViewSaid : Prop := fnExactGraphViewRow.holds Try.pinned (OpenSpec.ofChange fnExactGraphViewSpec)

/-- ITS FALSE NEIGHBOUR: 'it returns false'. Refute it at one input. -/
def fnExactGraphViewWrong : ChangeSpec := { name := "fnExactGraphView", fn := fun _ => fun
  | [d1, d2] => { results := [.lit (.bool false)], args := [d1, d2] }
  | _ => none }
def FnExactGraphViewWrongFalsely : Prop := fnExactGraphViewRow.holds Try.pinned (OpenSpec.ofChange fnExactGraphViewWrong)

/-- 'laws.FnGraphBent': WHATEVER THE INPUT: true; the input reads as it did. -/
def fnGraphBentSpec : ChangeSpec := { name := "fnGraphBent", fn := fun _ => fun
  | [d] => { results := [.lit (.bool true)], args := [d] }
  | _ => none }
def fnGraphBentRow : OpenClaim := { program := "ytohmemckdogljaa", sum := "f171abaf58d04a9748ac3a780d90cf3fe361e245d2af4868c398b62cc5245c12", func := "loop.example/hagioscope/laws.FnGraphBent", spec := "fnGraphBent", unfollowed := true, recurses := true, apart := false }
def FnGraphBentSaid : Prop := fnGraphBentRow.holds Try.pinned (OpenSpec.ofChange fnGraphBentSpec)

/-- ITS FALSE NEIGHBOUR: 'it returns false'. Refute it at one input. -/
def fnGraphBentWrong : ChangeSpec := { name := "fnGraphBent", fn := fun _ => fun
  | [d] => { results := [.lit (.bool false)], args := [d] }
  | _ => none }
def FnGraphBentWrongFalsely : Prop := fnGraphBentRow.holds Try.pinned (OpenSpec.ofChange fnGraphBentWrong)

/-- 'laws.FnGraphEmpty': WHATEVER THE INPUT: true; the input reads as it did. -/
def fnGraphEmptySpec : ChangeSpec := { name := "fnGraphEmpty", fn := fun _ => fun
  | [d] => { results := [.lit (.bool true)], args := [d] }
  | _ => none }
def fnGraphEmptyRow : OpenClaim := { program := "ytohmemckdogljaa", sum := "f171abaf58d04a9748ac3a780d90cf3fe361e245d2af4868c398b62cc5245c12", func := "loop.example/hagioscope/laws.FnGraphEmpty", spec := "fnGraphEmpty", unfollowed := true, recurses := true, apart := false }
def FnGraphEmptySaid : Prop := fnGraphEmptyRow.holds Try.pinned (OpenSpec.ofChange fnGraphEmptySpec)

/-- ITS FALSE NEIGHBOUR: 'it returns false'. Refute it at one input. -/
def fnGraphEmptyWrong : ChangeSpec := { name := "fnGraphEmpty", fn := fun _ => fun
  | [d] => { results := [.lit (.bool false)], args := [d] }
  | _ => none }
def FnGraphEmptyWrongFalsely : Prop := fnGraphEmptyRow.holds Try.pinned (OpenSpec.ofChange fnGraphEmptyWrong)

/-- 'laws.FnGraphView': WHATEVER THE INPUT: true; the input reads as it did. -/
def fnGraphViewSpec : ChangeSpec := { name := "fnGraphView", fn := fun _ => fun
  | [d1, d2] => { results := [.lit (.bool true)], args := [d1, d2] }
  | _ => none }
def fnGraphViewRow : OpenClaim := { program := "ytohmemckdogljaa", sum := "f171abaf58d04a9748ac3a780d90cf3fe361e245d2af4868c398b62cc5245c12", func := "loop.example/hagioscope/laws.FnGraphView", spec := "fnGraphView", unfollowed := true, recurses := true, apart := false }
def FnGraphViewSaid : Prop := fnGraphViewRow.holds Try.pinned (OpenSpec.ofChange fnGraphViewSpec)

/-- ITS FALSE NEIGHBOUR: 'it returns false'. Refute it at one input. -/
def fnGraphViewWrong : ChangeSpec := { name := "fnGraphView", fn := fun _ => fun
  | [d1, d2] => { results := [.lit (.bool false)], args := [d1, d2] }
  | _ => none }
def FnGraphViewWrongFalsely : Prop := fnGraphViewRow.holds Try.pinned (OpenSpec.ofChange fnGraphViewWrong)

/-- 'laws.FnGraphUnion': WHATEVER THE INPUT: true; the input reads as it did. -/
def fnGraphUnionSpec : ChangeSpec := { name := "fnGraphUnion", fn := fun _ => fun
  | [d1, d2] => { results := [.lit (.bool true)], args := [d1, d2] }
  | _ => none }
def fnGraphUnionRow : OpenClaim := { program := "ytohmemckdogljaa", sum := "f171abaf58d04a9748ac3a780d90cf3fe361e245d2af4868c398b62cc5245c12", func := "loop.example/hagioscope/laws.FnGraphUnion", spec := "fnGraphUnion", unfollowed := true, recurses := true, apart := false }
def FnGraphUnionSaid : Prop := fnGraphUnionRow.holds Try.pinned (OpenSpec.ofChange fnGraphUnionSpec)

/-- ITS FALSE NEIGHBOUR: 'it returns false'. Refute it at one input. -/
def fnGraphUnionWrong : ChangeSpec := { name := "fnGraphUnion", fn := fun _ => fun
  | [d1, d2] => { results := [.lit (.bool false)], args := [d1, d2] }
  | _ => none }
def FnGraphUnionWrongFalsely : Prop := fnGraphUnionRow.holds Try.pinned (OpenSpec.ofChange fnGraphUnionWrong)

/-- 'laws.FnExactGraphDo': WHATEVER THE INPUT: true; the input reads as it did. -/
def fnExactGraphDoSpec : ChangeSpec := { name := "fnExactGraphDo", fn := fun _ => fun
  | [d1, d2] => { results := [.lit (.bool true)], args := [d1, d2] }
  | _ => none }
def fnExactGraphDoRow : OpenClaim := { program := "ytohmemckdogljaa", sum := "f171abaf58d04a9748ac3a780d90cf3fe361e245d2af4868c398b62cc5245c12", func := "loop.example/hagioscope/laws.FnExactGraphDo", spec := "fnExactGraphDo", inPlace := ["slices.overlaps[loop.example/hagioscope/impl.Node]", "slices.overlaps[loop.example/hagioscope/impl.Edge]"], unfollowed := true, recurses := true, apart := false }
def FnExactGraphDoSaid : Prop := fnExactGraphDoRow.holds Try.pinned (OpenSpec.ofChange fnExactGraphDoSpec)

/-- ITS FALSE NEIGHBOUR: 'it returns false'. Refute it at one input. -/
def fnExactGraphDoWrong : ChangeSpec := { name := "fnExactGraphDo", fn := fun _ => fun
  | [d1, d2] => { results := [.lit (.bool false)], args := [d1, d2] }
  | _ => none }
def FnExactGraphDoWrongFalsely : Prop := fnExactGraphDoRow.holds Try.pinned (OpenSpec.ofChange fnExactGraphDoWrong)

/-- 'laws.FnExactGraphNear': WHATEVER THE INPUT: true; the input reads as it did. -/
def fnExactGraphNearSpec : ChangeSpec := { name := "fnExactGraphNear", fn := fun _ => fun
  | [d1, d2] => { results := [.lit (.bool true)], args := [d1, d2] }
  | _ => none }
def fnExactGraphNearRow : OpenClaim := { program := "ytohmemckdogljaa", sum := "f171abaf58d04a9748ac3a780d90cf3fe361e245d2af4868c398b62cc5245c12", func := "loop.example/hagioscope/laws.FnExactGraphNear", spec := "fnExactGraphNear", unfollowed := true, recurses := true, apart := false }
def FnExactGraphNearSaid : Prop := fnExactGraphNearRow.holds Try.pinned (OpenSpec.ofChange fnExactGraphNearSpec)

/-- ITS FALSE NEIGHBOUR: 'it returns false'. Refute it at one input. -/
def fnExactGraphNearWrong : ChangeSpec := { name := "fnExactGraphNear", fn := fun _ => fun
  | [d1, d2] => { results := [.lit (.bool false)], args := [d1, d2] }
  | _ => none }
def FnExactGraphNearWrongFalsely : Prop := fnExactGraphNearRow.holds Try.pinned (OpenSpec.ofChange fnExactGraphNearWrong)

/-- 'laws.FnExactWalkThrees': WHATEVER THE INPUT: true; the input reads as it did. -/
def fnExactWalkThreesSpec : ChangeSpec := { name := "fnExactWalkThrees", fn := fun _ => fun
  | [d] => { results := [.lit (.bool true)], args := [d] }
  | _ => none }
def fnExactWalkThreesRow : OpenClaim := { program := "ytohmemckdogljaa", sum := "f171abaf58d04a9748ac3a780d90cf3fe361e245d2af4868c398b62cc5245c12", func := "loop.example/hagioscope/laws.FnExactWalkThrees", spec := "fnExactWalkThrees", unfollowed := true, recurses := true, apart := false }
def FnExactWalkThreesSaid : Prop := fnExactWalkThreesRow.holds Try.pinned (OpenSpec.ofChange fnExactWalkThreesSpec)

/-- ITS FALSE NEIGHBOUR: 'it returns false'. Refute it at one input. -/
def fnExactWalkThreesWrong : ChangeSpec := { name := "fnExactWalkThrees", fn := fun _ => fun
  | [d] => { results := [.lit (.bool false)], args := [d] }
  | _ => none }
def FnExactWalkThreesWrongFalsely : Prop := fnExactWalkThreesRow.holds Try.pinned (OpenSpec.ofChange fnExactWalkThreesWrong)

/-- 'laws.FnExactWalkDist': WHATEVER THE INPUT: true; the input reads as it did. -/
def fnExactWalkDistSpec : ChangeSpec := { name := "fnExactWalkDist", fn := fun _ => fun
  | [d1, d2] => { results := [.lit (.bool true)], args := [d1, d2] }
  | _ => none }
def fnExactWalkDistRow : OpenClaim := { program := "ytohmemckdogljaa", sum := "f171abaf58d04a9748ac3a780d90cf3fe361e245d2af4868c398b62cc5245c12", func := "loop.example/hagioscope/laws.FnExactWalkDist", spec := "fnExactWalkDist", unfollowed := true, recurses := true, apart := false }
def FnExactWalkDistSaid : Prop := fnExactWalkDistRow.holds Try.pinned (OpenSpec.ofChange fnExactWalkDistSpec)

/-- ITS FALSE NEIGHBOUR: 'it returns false'. Refute it at one input. -/
def fnExactWalkDistWrong : ChangeSpec := { name := "fnExactWalkDist", fn := fun _ => fun
  | [d1, d2] => { results := [.lit (.bool false)], args := [d1, d2] }
  | _ => none }
def FnExactWalkDistWrongFalsely : Prop := fnExactWalkDistRow.holds Try.pinned (OpenSpec.ofChange fnExactWalkDistWrong)

/- THE SECOND FORM. 'bulk': how many values and letters a reading holds, each counted each time it is reached (what is shared counts as often as it is met; a slice's spare places count too). A statement '..UptoSaid' is the law's where the arguments, and the package variables that the reading takes, are together of bulk at most 1048576: NARROWER than '..Said'. Prove '..Said' where nothing that the law and all that it calls make is longer than what came in: it says more and counts as full. Else prove '..UptoSaid'. A law counts once. -/
mutual
def uptoBulk {H : Type} : DataW H → Nat
  | .lit (.string bytes) => bytes.length + 1
  | .lit _ => 1
  | .nil => 1
  | .ptr d => uptoBulk d + 1
  | .slice elems spare => uptoBulkAll elems + uptoBulkAll spare + 1
  | .agg parts => uptoBulkAll parts + 1
  | .iface _ d => uptoBulk d + 1
  | .map entries => uptoBulkEntries entries + 1
  | .held _ => 1
def uptoBulkAll {H : Type} : List (DataW H) → Nat
  | [] => 0
  | d :: r => uptoBulk d + uptoBulkAll r
def uptoBulkEntries {H : Type} : List (Lit × DataW H) → Nat
  | [] => 0
  | x :: r => uptoBulkEntry x + uptoBulkEntries r
def uptoBulkEntry {H : Type} : Lit × DataW H → Nat
  | (.string bytes, d) => bytes.length + uptoBulk d + 1
  | (_, d) => uptoBulk d + 1
 end
def uptoSmall : (H : Type) → List (DataW H) → Bool := fun _ ds => decide (uptoBulkAll ds ≤ 1048576)
def OpenSpec.upto (s : _root_.Go.ChangeSpec) : _root_.Go.OpenSpec := { _root_.Go.OpenSpec.ofChange s with cond := some uptoSmall }

/-- 'laws.FnExactWalkPath', WHERE WHAT IT READS IS OF BULK AT MOST 1048576: true; the input reads as it did. -/
def fnExactWalkPathUptoRow : OpenClaim := { program := "ytohmemckdogljaa", sum := "f171abaf58d04a9748ac3a780d90cf3fe361e245d2af4868c398b62cc5245c12", func := "loop.example/hagioscope/laws.FnExactWalkPath", spec := "fnExactWalkPath", unfollowed := true, recurses := true, apart := false, narrowed := true }
def FnExactWalkPathUptoSaid : Prop := fnExactWalkPathUptoRow.holds Try.pinned (OpenSpec.upto fnExactWalkPathSpec)

/-- 'laws.FnExactWalkParts', WHERE WHAT IT READS IS OF BULK AT MOST 1048576: true; the input reads as it did. -/
def fnExactWalkPartsUptoRow : OpenClaim := { program := "ytohmemckdogljaa", sum := "f171abaf58d04a9748ac3a780d90cf3fe361e245d2af4868c398b62cc5245c12", func := "loop.example/hagioscope/laws.FnExactWalkParts", spec := "fnExactWalkParts", unfollowed := true, recurses := true, apart := false, narrowed := true }
def FnExactWalkPartsUptoSaid : Prop := fnExactWalkPartsUptoRow.holds Try.pinned (OpenSpec.upto fnExactWalkPartsSpec)

/-- 'laws.FnExactWalkCore', WHERE WHAT IT READS IS OF BULK AT MOST 1048576: true; the input reads as it did. -/
def fnExactWalkCoreUptoRow : OpenClaim := { program := "ytohmemckdogljaa", sum := "f171abaf58d04a9748ac3a780d90cf3fe361e245d2af4868c398b62cc5245c12", func := "loop.example/hagioscope/laws.FnExactWalkCore", spec := "fnExactWalkCore", unfollowed := true, recurses := true, apart := false, narrowed := true }
def FnExactWalkCoreUptoSaid : Prop := fnExactWalkCoreUptoRow.holds Try.pinned (OpenSpec.upto fnExactWalkCoreSpec)

/-- 'laws.FnExactGraphOk', WHERE WHAT IT READS IS OF BULK AT MOST 1048576: true; the input reads as it did. -/
def fnExactGraphOkUptoRow : OpenClaim := { program := "ytohmemckdogljaa", sum := "f171abaf58d04a9748ac3a780d90cf3fe361e245d2af4868c398b62cc5245c12", func := "loop.example/hagioscope/laws.FnExactGraphOk", spec := "fnExactGraphOk", unfollowed := true, recurses := true, apart := false, narrowed := true }
def FnExactGraphOkUptoSaid : Prop := fnExactGraphOkUptoRow.holds Try.pinned (OpenSpec.upto fnExactGraphOkSpec)

/-- 'laws.FnExactGraphView', WHERE WHAT IT READS IS OF BULK AT MOST 1048576: true; the input reads as it did. -/
def fnExactGraphViewUptoRow : OpenClaim := { program := "ytohmemckdogljaa", sum := "f171abaf58d04a9748ac3a780d90cf3fe361e245d2af4868c398b62cc5245c12", func := "loop.example/hagioscope/laws.FnExactGraphView", spec := "fnExactGraphView", unfollowed := true, recurses := true, apart := false, narrowed := true }
def FnExactGraphViewUptoSaid : Prop := fnExactGraphViewUptoRow.holds Try.pinned (OpenSpec.upto fnExactGraphViewSpec)

/-- 'laws.FnGraphBent', WHERE WHAT IT READS IS OF BULK AT MOST 1048576: true; the input reads as it did. -/
def fnGraphBentUptoRow : OpenClaim := { program := "ytohmemckdogljaa", sum := "f171abaf58d04a9748ac3a780d90cf3fe361e245d2af4868c398b62cc5245c12", func := "loop.example/hagioscope/laws.FnGraphBent", spec := "fnGraphBent", unfollowed := true, recurses := true, apart := false, narrowed := true }
def FnGraphBentUptoSaid : Prop := fnGraphBentUptoRow.holds Try.pinned (OpenSpec.upto fnGraphBentSpec)

/-- 'laws.FnGraphEmpty', WHERE WHAT IT READS IS OF BULK AT MOST 1048576: true; the input reads as it did. -/
def fnGraphEmptyUptoRow : OpenClaim := { program := "ytohmemckdogljaa", sum := "f171abaf58d04a9748ac3a780d90cf3fe361e245d2af4868c398b62cc5245c12", func := "loop.example/hagioscope/laws.FnGraphEmpty", spec := "fnGraphEmpty", unfollowed := true, recurses := true, apart := false, narrowed := true }
def FnGraphEmptyUptoSaid : Prop := fnGraphEmptyUptoRow.holds Try.pinned (OpenSpec.upto fnGraphEmptySpec)

/-- 'laws.FnGraphView', WHERE WHAT IT READS IS OF BULK AT MOST 1048576: true; the input reads as it did. -/
def fnGraphViewUptoRow : OpenClaim := { program := "ytohmemckdogljaa", sum := "f171abaf58d04a9748ac3a780d90cf3fe361e245d2af4868c398b62cc5245c12", func := "loop.example/hagioscope/laws.FnGraphView", spec := "fnGraphView", unfollowed := true, recurses := true, apart := false, narrowed := true }
def FnGraphViewUptoSaid : Prop := fnGraphViewUptoRow.holds Try.pinned (OpenSpec.upto fnGraphViewSpec)

/-- 'laws.FnGraphUnion', WHERE WHAT IT READS IS OF BULK AT MOST 1048576: true; the input reads as it did. -/
def fnGraphUnionUptoRow : OpenClaim := { program := "ytohmemckdogljaa", sum := "f171abaf58d04a9748ac3a780d90cf3fe361e245d2af4868c398b62cc5245c12", func := "loop.example/hagioscope/laws.FnGraphUnion", spec := "fnGraphUnion", unfollowed := true, recurses := true, apart := false, narrowed := true }
def FnGraphUnionUptoSaid : Prop := fnGraphUnionUptoRow.holds Try.pinned (OpenSpec.upto fnGraphUnionSpec)

/-- 'laws.FnExactGraphDo', WHERE WHAT IT READS IS OF BULK AT MOST 1048576: true; the input reads as it did. -/
def fnExactGraphDoUptoRow : OpenClaim := { program := "ytohmemckdogljaa", sum := "f171abaf58d04a9748ac3a780d90cf3fe361e245d2af4868c398b62cc5245c12", func := "loop.example/hagioscope/laws.FnExactGraphDo", spec := "fnExactGraphDo", inPlace := ["slices.overlaps[loop.example/hagioscope/impl.Node]", "slices.overlaps[loop.example/hagioscope/impl.Edge]"], unfollowed := true, recurses := true, apart := false, narrowed := true }
def FnExactGraphDoUptoSaid : Prop := fnExactGraphDoUptoRow.holds Try.pinned (OpenSpec.upto fnExactGraphDoSpec)

/-- 'laws.FnExactGraphNear', WHERE WHAT IT READS IS OF BULK AT MOST 1048576: true; the input reads as it did. -/
def fnExactGraphNearUptoRow : OpenClaim := { program := "ytohmemckdogljaa", sum := "f171abaf58d04a9748ac3a780d90cf3fe361e245d2af4868c398b62cc5245c12", func := "loop.example/hagioscope/laws.FnExactGraphNear", spec := "fnExactGraphNear", unfollowed := true, recurses := true, apart := false, narrowed := true }
def FnExactGraphNearUptoSaid : Prop := fnExactGraphNearUptoRow.holds Try.pinned (OpenSpec.upto fnExactGraphNearSpec)

/-- 'laws.FnExactWalkThrees', WHERE WHAT IT READS IS OF BULK AT MOST 1048576: true; the input reads as it did. -/
def fnExactWalkThreesUptoRow : OpenClaim := { program := "ytohmemckdogljaa", sum := "f171abaf58d04a9748ac3a780d90cf3fe361e245d2af4868c398b62cc5245c12", func := "loop.example/hagioscope/laws.FnExactWalkThrees", spec := "fnExactWalkThrees", unfollowed := true, recurses := true, apart := false, narrowed := true }
def FnExactWalkThreesUptoSaid : Prop := fnExactWalkThreesUptoRow.holds Try.pinned (OpenSpec.upto fnExactWalkThreesSpec)

/-- 'laws.FnExactWalkDist', WHERE WHAT IT READS IS OF BULK AT MOST 1048576: true; the input reads as it did. -/
def fnExactWalkDistUptoRow : OpenClaim := { program := "ytohmemckdogljaa", sum := "f171abaf58d04a9748ac3a780d90cf3fe361e245d2af4868c398b62cc5245c12", func := "loop.example/hagioscope/laws.FnExactWalkDist", spec := "fnExactWalkDist", unfollowed := true, recurses := true, apart := false, narrowed := true }
def FnExactWalkDistUptoSaid : Prop := fnExactWalkDistUptoRow.holds Try.pinned (OpenSpec.upto fnExactWalkDistSpec)

end Rows
end Go.Proofs.Ytohmemckdogljaa
