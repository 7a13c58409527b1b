/-
  No cell of these rows narrows 'for every input' (looked for: loops, veiled, ifaces, maps, wideKeys, modest, calm, conditions, laid).
  DERIVED. THE GIVEN ROWS OF THIS SEAT. 12 by the template 'for every input the law returns true; each argument reads behind the call as it read before'; 0 by the template 'total and deterministic' (their statements: YteilpkckaecomaaTotals.lean).
  GIVEN WITH THE SEED: the statements are not yours to turn. If you find one false, say at which input.
  Laid BY PROGRAM, IN A SANDBOX (cutbox-rows.mjs): the forced cells as the released guide's own fill.sh prints them over the translation f882664ddf298d58… (all of the seat's roots in one cut). By AI agents, Wed Nov 11 2026. No macro, syntax, notation, axiom, sorry.
-/
import Derived.Test.YteilpkckaecomaaChecked
import GoSem.Claim
import GoSem.ClaimJoined
import GoSem.ClaimMapViews
import Derived.JoinedTies
import Derived.KernelRfl
namespace Go.Proofs.Yteilpkckaecomaa
/- THE CELL 'sum', in the pinned program and in every row, IS THE sha256 OF THE DUMP (.gsa) THAT YteilpkckaecomaaProg.lean LOADS. Nothing in Lean hashes anything: it is a label: what it is worth is what the hold of that sum in a sandbox is worth. -/
noncomputable def Try.pinned : Pinned := { name := "yteilpkckaecomaa", sum := "f882664ddf298d589ca3fe8fd6a296303ce4cb384d9eebbfa680cf984d8771cc", checked := Try.checked }
namespace Rows
def none {H : Type} : Left H := { results := [], args := [] }

/-- 'laws.FnPackOrder': WHATEVER THE INPUT: true; the input reads as it did. -/
def fnPackOrderSpec : ChangeSpec := { name := "fnPackOrder", fn := fun _ => fun
  | [d1, d2] => { results := [.lit (.bool true)], args := [d1, d2] }
  | _ => none }
def fnPackOrderRow : OpenClaim := { program := "yteilpkckaecomaa", sum := "f882664ddf298d589ca3fe8fd6a296303ce4cb384d9eebbfa680cf984d8771cc", func := "loop.example/hagioscope/laws.FnPackOrder", spec := "fnPackOrder", apart := false }
def FnPackOrderSaid : Prop := fnPackOrderRow.holds Try.pinned (OpenSpec.ofChange fnPackOrderSpec)

/-- ITS FALSE NEIGHBOUR: 'it returns false'. Refute it at one input. -/
def fnPackOrderWrong : ChangeSpec := { name := "fnPackOrder", fn := fun _ => fun
  | [d1, d2] => { results := [.lit (.bool false)], args := [d1, d2] }
  | _ => none }
def FnPackOrderWrongFalsely : Prop := fnPackOrderRow.holds Try.pinned (OpenSpec.ofChange fnPackOrderWrong)

/-- 'laws.FnLabelHas': WHATEVER THE INPUT: true; the input reads as it did. -/
def fnLabelHasSpec : ChangeSpec := { name := "fnLabelHas", fn := fun _ => fun
  | [d1, d2] => { results := [.lit (.bool true)], args := [d1, d2] }
  | _ => none }
def fnLabelHasRow : OpenClaim := { program := "yteilpkckaecomaa", sum := "f882664ddf298d589ca3fe8fd6a296303ce4cb384d9eebbfa680cf984d8771cc", func := "loop.example/hagioscope/laws.FnLabelHas", spec := "fnLabelHas", apart := false }
def FnLabelHasSaid : Prop := fnLabelHasRow.holds Try.pinned (OpenSpec.ofChange fnLabelHasSpec)

/-- ITS FALSE NEIGHBOUR: 'it returns false'. Refute it at one input. -/
def fnLabelHasWrong : ChangeSpec := { name := "fnLabelHas", fn := fun _ => fun
  | [d1, d2] => { results := [.lit (.bool false)], args := [d1, d2] }
  | _ => none }
def FnLabelHasWrongFalsely : Prop := fnLabelHasRow.holds Try.pinned (OpenSpec.ofChange fnLabelHasWrong)

/-- 'laws.FnLabelOrder': WHATEVER THE INPUT: true; the input reads as it did. -/
def fnLabelOrderSpec : ChangeSpec := { name := "fnLabelOrder", fn := fun _ => fun
  | [d1, d2] => { results := [.lit (.bool true)], args := [d1, d2] }
  | _ => none }
def fnLabelOrderRow : OpenClaim := { program := "yteilpkckaecomaa", sum := "f882664ddf298d589ca3fe8fd6a296303ce4cb384d9eebbfa680cf984d8771cc", func := "loop.example/hagioscope/laws.FnLabelOrder", spec := "fnLabelOrder", apart := false }
def FnLabelOrderSaid : Prop := fnLabelOrderRow.holds Try.pinned (OpenSpec.ofChange fnLabelOrderSpec)

/-- ITS FALSE NEIGHBOUR: 'it returns false'. Refute it at one input. -/
def fnLabelOrderWrong : ChangeSpec := { name := "fnLabelOrder", fn := fun _ => fun
  | [d1, d2] => { results := [.lit (.bool false)], args := [d1, d2] }
  | _ => none }
def FnLabelOrderWrongFalsely : Prop := fnLabelOrderRow.holds Try.pinned (OpenSpec.ofChange fnLabelOrderWrong)

/-- 'laws.FnNodeCode': WHATEVER THE INPUT: true; the input reads as it did. -/
def fnNodeCodeSpec : ChangeSpec := { name := "fnNodeCode", fn := fun _ => fun
  | [d1, d2] => { results := [.lit (.bool true)], args := [d1, d2] }
  | _ => none }
def fnNodeCodeRow : OpenClaim := { program := "yteilpkckaecomaa", sum := "f882664ddf298d589ca3fe8fd6a296303ce4cb384d9eebbfa680cf984d8771cc", func := "loop.example/hagioscope/laws.FnNodeCode", spec := "fnNodeCode", apart := false }
def FnNodeCodeSaid : Prop := fnNodeCodeRow.holds Try.pinned (OpenSpec.ofChange fnNodeCodeSpec)

/-- ITS FALSE NEIGHBOUR: 'it returns false'. Refute it at one input. -/
def fnNodeCodeWrong : ChangeSpec := { name := "fnNodeCode", fn := fun _ => fun
  | [d1, d2] => { results := [.lit (.bool false)], args := [d1, d2] }
  | _ => none }
def FnNodeCodeWrongFalsely : Prop := fnNodeCodeRow.holds Try.pinned (OpenSpec.ofChange fnNodeCodeWrong)

/-- 'laws.FnExactLabelAll': WHATEVER THE INPUT: true; the input reads as it did. -/
def fnExactLabelAllSpec : ChangeSpec := { name := "fnExactLabelAll", fn := fun _ => fun
  | [d] => { results := [.lit (.bool true)], args := [d] }
  | _ => none }
def fnExactLabelAllRow : OpenClaim := { program := "yteilpkckaecomaa", sum := "f882664ddf298d589ca3fe8fd6a296303ce4cb384d9eebbfa680cf984d8771cc", func := "loop.example/hagioscope/laws.FnExactLabelAll", spec := "fnExactLabelAll", apart := false }
def FnExactLabelAllSaid : Prop := fnExactLabelAllRow.holds Try.pinned (OpenSpec.ofChange fnExactLabelAllSpec)

/-- ITS FALSE NEIGHBOUR: 'it returns false'. Refute it at one input. -/
def fnExactLabelAllWrong : ChangeSpec := { name := "fnExactLabelAll", fn := fun _ => fun
  | [d] => { results := [.lit (.bool false)], args := [d] }
  | _ => none }
def FnExactLabelAllWrongFalsely : Prop := fnExactLabelAllRow.holds Try.pinned (OpenSpec.ofChange fnExactLabelAllWrong)

/-- 'laws.FnExactPackRow': WHATEVER THE INPUT: true; the input reads as it did. -/
def fnExactPackRowSpec : ChangeSpec := { name := "fnExactPackRow", fn := fun _ => fun
  | [d] => { results := [.lit (.bool true)], args := [d] }
  | _ => none }
def fnExactPackRowRow : OpenClaim := { program := "yteilpkckaecomaa", sum := "f882664ddf298d589ca3fe8fd6a296303ce4cb384d9eebbfa680cf984d8771cc", func := "loop.example/hagioscope/laws.FnExactPackRow", spec := "fnExactPackRow", apart := false }
def FnExactPackRowSaid : Prop := fnExactPackRowRow.holds Try.pinned (OpenSpec.ofChange fnExactPackRowSpec)

/-- ITS FALSE NEIGHBOUR: 'it returns false'. Refute it at one input. -/
def fnExactPackRowWrong : ChangeSpec := { name := "fnExactPackRow", fn := fun _ => fun
  | [d] => { results := [.lit (.bool false)], args := [d] }
  | _ => none }
def FnExactPackRowWrongFalsely : Prop := fnExactPackRowRow.holds Try.pinned (OpenSpec.ofChange fnExactPackRowWrong)

/-- 'laws.FnLabelRing': WHATEVER THE INPUT: true; the input reads as it did. -/
def fnLabelRingSpec : ChangeSpec := { name := "fnLabelRing", fn := fun _ => fun
  | [d1, d2] => { results := [.lit (.bool true)], args := [d1, d2] }
  | _ => none }
def fnLabelRingRow : OpenClaim := { program := "yteilpkckaecomaa", sum := "f882664ddf298d589ca3fe8fd6a296303ce4cb384d9eebbfa680cf984d8771cc", func := "loop.example/hagioscope/laws.FnLabelRing", spec := "fnLabelRing", apart := false }
def FnLabelRingSaid : Prop := fnLabelRingRow.holds Try.pinned (OpenSpec.ofChange fnLabelRingSpec)

/-- ITS FALSE NEIGHBOUR: 'it returns false'. Refute it at one input. -/
def fnLabelRingWrong : ChangeSpec := { name := "fnLabelRing", fn := fun _ => fun
  | [d1, d2] => { results := [.lit (.bool false)], args := [d1, d2] }
  | _ => none }
def FnLabelRingWrongFalsely : Prop := fnLabelRingRow.holds Try.pinned (OpenSpec.ofChange fnLabelRingWrong)

/-- 'laws.FnLabelThree': WHATEVER THE INPUT: true; the input reads as it did. -/
def fnLabelThreeSpec : ChangeSpec := { name := "fnLabelThree", fn := fun _ => fun
  | [d1, d2] => { results := [.lit (.bool true)], args := [d1, d2] }
  | _ => none }
def fnLabelThreeRow : OpenClaim := { program := "yteilpkckaecomaa", sum := "f882664ddf298d589ca3fe8fd6a296303ce4cb384d9eebbfa680cf984d8771cc", func := "loop.example/hagioscope/laws.FnLabelThree", spec := "fnLabelThree", apart := false }
def FnLabelThreeSaid : Prop := fnLabelThreeRow.holds Try.pinned (OpenSpec.ofChange fnLabelThreeSpec)

/-- ITS FALSE NEIGHBOUR: 'it returns false'. Refute it at one input. -/
def fnLabelThreeWrong : ChangeSpec := { name := "fnLabelThree", fn := fun _ => fun
  | [d1, d2] => { results := [.lit (.bool false)], args := [d1, d2] }
  | _ => none }
def FnLabelThreeWrongFalsely : Prop := fnLabelThreeRow.holds Try.pinned (OpenSpec.ofChange fnLabelThreeWrong)

/-- 'laws.FnLabelJoin': WHATEVER THE INPUT: true; the input reads as it did. -/
def fnLabelJoinSpec : ChangeSpec := { name := "fnLabelJoin", fn := fun _ => fun
  | [d1, d2] => { results := [.lit (.bool true)], args := [d1, d2] }
  | _ => none }
def fnLabelJoinRow : OpenClaim := { program := "yteilpkckaecomaa", sum := "f882664ddf298d589ca3fe8fd6a296303ce4cb384d9eebbfa680cf984d8771cc", func := "loop.example/hagioscope/laws.FnLabelJoin", spec := "fnLabelJoin", apart := false }
def FnLabelJoinSaid : Prop := fnLabelJoinRow.holds Try.pinned (OpenSpec.ofChange fnLabelJoinSpec)

/-- ITS FALSE NEIGHBOUR: 'it returns false'. Refute it at one input. -/
def fnLabelJoinWrong : ChangeSpec := { name := "fnLabelJoin", fn := fun _ => fun
  | [d1, d2] => { results := [.lit (.bool false)], args := [d1, d2] }
  | _ => none }
def FnLabelJoinWrongFalsely : Prop := fnLabelJoinRow.holds Try.pinned (OpenSpec.ofChange fnLabelJoinWrong)

/-- 'laws.FnLabelUp': WHATEVER THE INPUT: true; the input reads as it did. -/
def fnLabelUpSpec : ChangeSpec := { name := "fnLabelUp", fn := fun _ => fun
  | [d] => { results := [.lit (.bool true)], args := [d] }
  | _ => none }
def fnLabelUpRow : OpenClaim := { program := "yteilpkckaecomaa", sum := "f882664ddf298d589ca3fe8fd6a296303ce4cb384d9eebbfa680cf984d8771cc", func := "loop.example/hagioscope/laws.FnLabelUp", spec := "fnLabelUp", apart := false }
def FnLabelUpSaid : Prop := fnLabelUpRow.holds Try.pinned (OpenSpec.ofChange fnLabelUpSpec)

/-- ITS FALSE NEIGHBOUR: 'it returns false'. Refute it at one input. -/
def fnLabelUpWrong : ChangeSpec := { name := "fnLabelUp", fn := fun _ => fun
  | [d] => { results := [.lit (.bool false)], args := [d] }
  | _ => none }
def FnLabelUpWrongFalsely : Prop := fnLabelUpRow.holds Try.pinned (OpenSpec.ofChange fnLabelUpWrong)

/-- 'laws.FnLabelList': WHATEVER THE INPUT: true; the input reads as it did. -/
def fnLabelListSpec : ChangeSpec := { name := "fnLabelList", fn := fun _ => fun
  | [d] => { results := [.lit (.bool true)], args := [d] }
  | _ => none }
def fnLabelListRow : OpenClaim := { program := "yteilpkckaecomaa", sum := "f882664ddf298d589ca3fe8fd6a296303ce4cb384d9eebbfa680cf984d8771cc", func := "loop.example/hagioscope/laws.FnLabelList", spec := "fnLabelList", apart := false }
def FnLabelListSaid : Prop := fnLabelListRow.holds Try.pinned (OpenSpec.ofChange fnLabelListSpec)

/-- ITS FALSE NEIGHBOUR: 'it returns false'. Refute it at one input. -/
def fnLabelListWrong : ChangeSpec := { name := "fnLabelList", fn := fun _ => fun
  | [d] => { results := [.lit (.bool false)], args := [d] }
  | _ => none }
def FnLabelListWrongFalsely : Prop := fnLabelListRow.holds Try.pinned (OpenSpec.ofChange fnLabelListWrong)

/-- 'laws.FnLabelMany': WHATEVER THE INPUT: true; the input reads as it did. -/
def fnLabelManySpec : ChangeSpec := { name := "fnLabelMany", fn := fun _ => fun
  | [d] => { results := [.lit (.bool true)], args := [d] }
  | _ => none }
def fnLabelManyRow : OpenClaim := { program := "yteilpkckaecomaa", sum := "f882664ddf298d589ca3fe8fd6a296303ce4cb384d9eebbfa680cf984d8771cc", func := "loop.example/hagioscope/laws.FnLabelMany", spec := "fnLabelMany", apart := false }
def FnLabelManySaid : Prop := fnLabelManyRow.holds Try.pinned (OpenSpec.ofChange fnLabelManySpec)

/-- ITS FALSE NEIGHBOUR: 'it returns false'. Refute it at one input. -/
def fnLabelManyWrong : ChangeSpec := { name := "fnLabelMany", fn := fun _ => fun
  | [d] => { results := [.lit (.bool false)], args := [d] }
  | _ => none }
def FnLabelManyWrongFalsely : Prop := fnLabelManyRow.holds Try.pinned (OpenSpec.ofChange fnLabelManyWrong)

/- THE SECOND FORM. 'bulk': how many values and letters a reading holds, each counted each time it is reached (what is shared counts as often as it is met; a slice's spare places count too). A statement '..UptoSaid' is the law's where the arguments, and the package variables that the reading takes, are together of bulk at most 1048576: NARROWER than '..Said'. Prove '..Said' where nothing that the law and all that it calls make is longer than what came in: it says more and counts as full. Else prove '..UptoSaid'. A law counts once. -/
mutual
def uptoBulk {H : Type} : DataW H → Nat
  | .lit (.string bytes) => bytes.length + 1
  | .lit _ => 1
  | .nil => 1
  | .ptr d => uptoBulk d + 1
  | .slice elems spare => uptoBulkAll elems + uptoBulkAll spare + 1
  | .agg parts => uptoBulkAll parts + 1
  | .iface _ d => uptoBulk d + 1
  | .map entries => uptoBulkEntries entries + 1
  | .held _ => 1
def uptoBulkAll {H : Type} : List (DataW H) → Nat
  | [] => 0
  | d :: r => uptoBulk d + uptoBulkAll r
def uptoBulkEntries {H : Type} : List (Lit × DataW H) → Nat
  | [] => 0
  | x :: r => uptoBulkEntry x + uptoBulkEntries r
def uptoBulkEntry {H : Type} : Lit × DataW H → Nat
  | (.string bytes, d) => bytes.length + uptoBulk d + 1
  | (_, d) => uptoBulk d + 1
 end
def uptoSmall : (H : Type) → List (DataW H) → Bool := fun _ ds => decide (uptoBulkAll ds ≤ 1048576)
def OpenSpec.upto (s : _root_.Go.ChangeSpec) : _root_.Go.OpenSpec := { _root_.Go.OpenSpec.ofChange s with cond := some uptoSmall }

/-- 'laws.FnPackOrder', WHERE WHAT IT READS IS OF BULK AT MOST 1048576: true; the input reads as it did. -/
def fnPackOrderUptoRow : OpenClaim := { program := "yteilpkckaecomaa", sum := "f882664ddf298d589ca3fe8fd6a296303ce4cb384d9eebbfa680cf984d8771cc", func := "loop.example/hagioscope/laws.FnPackOrder", spec := "fnPackOrder", apart := false, narrowed := true }
def FnPackOrderUptoSaid : Prop := fnPackOrderUptoRow.holds Try.pinned (OpenSpec.upto fnPackOrderSpec)

/-- 'laws.FnLabelHas', WHERE WHAT IT READS IS OF BULK AT MOST 1048576: true; the input reads as it did. -/
def fnLabelHasUptoRow : OpenClaim := { program := "yteilpkckaecomaa", sum := "f882664ddf298d589ca3fe8fd6a296303ce4cb384d9eebbfa680cf984d8771cc", func := "loop.example/hagioscope/laws.FnLabelHas", spec := "fnLabelHas", apart := false, narrowed := true }
def FnLabelHasUptoSaid : Prop := fnLabelHasUptoRow.holds Try.pinned (OpenSpec.upto fnLabelHasSpec)

/-- 'laws.FnLabelOrder', WHERE WHAT IT READS IS OF BULK AT MOST 1048576: true; the input reads as it did. -/
def fnLabelOrderUptoRow : OpenClaim := { program := "yteilpkckaecomaa", sum := "f882664ddf298d589ca3fe8fd6a296303ce4cb384d9eebbfa680cf984d8771cc", func := "loop.example/hagioscope/laws.FnLabelOrder", spec := "fnLabelOrder", apart := false, narrowed := true }
def FnLabelOrderUptoSaid : Prop := fnLabelOrderUptoRow.holds Try.pinned (OpenSpec.upto fnLabelOrderSpec)

/-- 'laws.FnNodeCode', WHERE WHAT IT READS IS OF BULK AT MOST 1048576: true; the input reads as it did. -/
def fnNodeCodeUptoRow : OpenClaim := { program := "yteilpkckaecomaa", sum := "f882664ddf298d589ca3fe8fd6a296303ce4cb384d9eebbfa680cf984d8771cc", func := "loop.example/hagioscope/laws.FnNodeCode", spec := "fnNodeCode", apart := false, narrowed := true }
def FnNodeCodeUptoSaid : Prop := fnNodeCodeUptoRow.holds Try.pinned (OpenSpec.upto fnNodeCodeSpec)

/-- 'laws.FnExactLabelAll', WHERE WHAT IT READS IS OF BULK AT MOST 1048576: true; the input reads as it did. -/
def fnExactLabelAllUptoRow : OpenClaim := { program := "yteilpkckaecomaa", sum := "f882664ddf298d589ca3fe8fd6a296303ce4cb384d9eebbfa680cf984d8771cc", func := "loop.example/hagioscope/laws.FnExactLabelAll", spec := "fnExactLabelAll", apart := false, narrowed := true }
def FnExactLabelAllUptoSaid : Prop := fnExactLabelAllUptoRow.holds Try.pinned (OpenSpec.upto fnExactLabelAllSpec)

/-- 'laws.FnExactPackRow', WHERE WHAT IT READS IS OF BULK AT MOST 1048576: true; the input reads as it did. -/
def fnExactPackRowUptoRow : OpenClaim := { program := "yteilpkckaecomaa", sum := "f882664ddf298d589ca3fe8fd6a296303ce4cb384d9eebbfa680cf984d8771cc", func := "loop.example/hagioscope/laws.FnExactPackRow", spec := "fnExactPackRow", apart := false, narrowed := true }
def FnExactPackRowUptoSaid : Prop := fnExactPackRowUptoRow.holds Try.pinned (OpenSpec.upto fnExactPackRowSpec)

/-- 'laws.FnLabelRing', WHERE WHAT IT READS IS OF BULK AT MOST 1048576: true; the input reads as it did. -/
def fnLabelRingUptoRow : OpenClaim := { program := "yteilpkckaecomaa", sum := "f882664ddf298d589ca3fe8fd6a296303ce4cb384d9eebbfa680cf984d8771cc", func := "loop.example/hagioscope/laws.FnLabelRing", spec := "fnLabelRing", apart := false, narrowed := true }
def FnLabelRingUptoSaid : Prop := fnLabelRingUptoRow.holds Try.pinned (OpenSpec.upto fnLabelRingSpec)

/-- 'laws.FnLabelThree', WHERE WHAT IT READS IS OF BULK AT MOST 1048576: true; the input reads as it did. -/
def fnLabelThreeUptoRow : OpenClaim := { program := "yteilpkckaecomaa", sum := "f882664ddf298d589ca3fe8fd6a296303ce4cb384d9eebbfa680cf984d8771cc", func := "loop.example/hagioscope/laws.FnLabelThree", spec := "fnLabelThree", apart := false, narrowed := true }
def FnLabelThreeUptoSaid : Prop := fnLabelThreeUptoRow.holds Try.pinned (OpenSpec.upto fnLabelThreeSpec)

/-- 'laws.FnLabelJoin', WHERE WHAT IT READS IS OF BULK AT MOST 1048576: true; the input reads as it did. -/
def fnLabelJoinUptoRow : OpenClaim := { program := "yteilpkckaecomaa", sum := "f882664ddf298d589ca3fe8fd6a296303ce4cb384d9eebbfa680cf984d8771cc", func := "loop.example/hagioscope/laws.FnLabelJoin", spec := "fnLabelJoin", apart := false, narrowed := true }
def FnLabelJoinUptoSaid : Prop := fnLabelJoinUptoRow.holds Try.pinned (OpenSpec.upto fnLabelJoinSpec)

/-- 'laws.FnLabelUp', WHERE WHAT IT READS IS OF BULK AT MOST 1048576: true; the input reads as it did. -/
def fnLabelUpUptoRow : OpenClaim := { program := "yteilpkckaecomaa", sum := "f882664ddf298d589ca3fe8fd6a296303ce4cb384d9eebbfa680cf984d8771cc", func := "loop.example/hagioscope/laws.FnLabelUp", spec := "fnLabelUp", apart := false, narrowed := true }
def FnLabelUpUptoSaid : Prop := fnLabelUpUptoRow.holds Try.pinned (OpenSpec.upto fnLabelUpSpec)

/-- 'laws.FnLabelList', WHERE WHAT IT READS IS OF BULK AT MOST 1048576: true; the input reads as it did. -/
def fnLabelListUptoRow : OpenClaim := { program := "yteilpkckaecomaa", sum := "f882664ddf298d589ca3fe8fd6a296303ce4cb384d9eebbfa680cf984d8771cc", func := "loop.example/hagioscope/laws.FnLabelList", spec := "fnLabelList", apart := false, narrowed := true }
def FnLabelListUptoSaid : Prop := fnLabelListUptoRow.holds Try.pinned (OpenSpec.upto fnLabelListSpec)

/-- 'laws.FnLabelMany', WHERE WHAT IT READS IS OF BULK AT MOST 1048576: true; the input reads as it did. -/
def fnLabelManyUptoRow : OpenClaim := { program := "yteilpkckaecomaa", sum := "f882664ddf298d589ca3fe8fd6a296303ce4cb384d9eebbfa680cf984d8771cc", func := "loop.example/hagioscope/laws.FnLabelMany", spec := "fnLabelMany", apart := false, narrowed := true }
def FnLabelManyUptoSaid : Prop := fnLabelManyUptoRow.holds Try.pinned (OpenSpec.upto fnLabelManySpec)

end Rows
end Go.Proofs.Yteilpkckaecomaa
