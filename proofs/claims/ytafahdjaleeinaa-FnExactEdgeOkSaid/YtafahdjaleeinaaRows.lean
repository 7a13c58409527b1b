/-
  No cell of these rows narrows 'for every input' (looked for: loops, veiled, ifaces, maps, wideKeys, modest, calm, conditions, laid).
  DERIVED. THE GIVEN ROWS OF THIS SEAT. 12 by the template 'for every input the law returns true; each argument reads behind the call as it read before'; 0 by the template 'total and deterministic' (their statements: YtafahdjaleeinaaTotals.lean).
  GIVEN WITH THE SEED: the statements are not yours to turn. If you find one false, say at which input.
  Laid BY PROGRAM, IN A SANDBOX (cutbox-rows.mjs): the forced cells as the released guide's own fill.sh prints them over the translation 5734128108d3fafa… (all of the seat's roots in one cut). By AI agents, Wed Nov 11 2026. No macro, syntax, notation, axiom, sorry.
-/
import Derived.Test.YtafahdjaleeinaaChecked
import GoSem.Claim
import GoSem.ClaimJoined
import GoSem.ClaimMapViews
import Derived.JoinedTies
import Derived.KernelRfl
namespace Go.Proofs.Ytafahdjaleeinaa
/- THE CELL 'sum', in the pinned program and in every row, IS THE sha256 OF THE DUMP (.gsa) THAT YtafahdjaleeinaaProg.lean LOADS. Nothing in Lean hashes anything: it is a label: what it is worth is what the hold of that sum in a sandbox is worth. -/
noncomputable def Try.pinned : Pinned := { name := "ytafahdjaleeinaa", sum := "5734128108d3fafa896051d50896b29433a6d3ac4809988daacc99ebb94834cb", checked := Try.checked }
namespace Rows
def none {H : Type} : Left H := { results := [], args := [] }

/-- 'laws.FnExactConstants': WHATEVER THE INPUT: true; the input reads as it did. -/
def fnExactConstantsSpec : ChangeSpec := { name := "fnExactConstants", fn := fun _ => fun
  | [] => { results := [.lit (.bool true)], args := [] }
  | _ => none }
def fnExactConstantsRow : OpenClaim := { program := "ytafahdjaleeinaa", sum := "5734128108d3fafa896051d50896b29433a6d3ac4809988daacc99ebb94834cb", func := "loop.example/hagioscope/laws.FnExactConstants", spec := "fnExactConstants", apart := false }
def FnExactConstantsSaid : Prop := fnExactConstantsRow.holds Try.pinned (OpenSpec.ofChange fnExactConstantsSpec)

/-- ITS FALSE NEIGHBOUR: 'it returns false'. Refute it at one input. -/
def fnExactConstantsWrong : ChangeSpec := { name := "fnExactConstants", fn := fun _ => fun
  | [] => { results := [.lit (.bool false)], args := [] }
  | _ => none }
def FnExactConstantsWrongFalsely : Prop := fnExactConstantsRow.holds Try.pinned (OpenSpec.ofChange fnExactConstantsWrong)

/-- 'laws.FnExactLabelOk': WHATEVER THE INPUT: true; the input reads as it did. -/
def fnExactLabelOkSpec : ChangeSpec := { name := "fnExactLabelOk", fn := fun _ => fun
  | [d] => { results := [.lit (.bool true)], args := [d] }
  | _ => none }
def fnExactLabelOkRow : OpenClaim := { program := "ytafahdjaleeinaa", sum := "5734128108d3fafa896051d50896b29433a6d3ac4809988daacc99ebb94834cb", func := "loop.example/hagioscope/laws.FnExactLabelOk", spec := "fnExactLabelOk", apart := false }
def FnExactLabelOkSaid : Prop := fnExactLabelOkRow.holds Try.pinned (OpenSpec.ofChange fnExactLabelOkSpec)

/-- ITS FALSE NEIGHBOUR: 'it returns false'. Refute it at one input. -/
def fnExactLabelOkWrong : ChangeSpec := { name := "fnExactLabelOk", fn := fun _ => fun
  | [d] => { results := [.lit (.bool false)], args := [d] }
  | _ => none }
def FnExactLabelOkWrongFalsely : Prop := fnExactLabelOkRow.holds Try.pinned (OpenSpec.ofChange fnExactLabelOkWrong)

/-- 'laws.FnExactNodeOk': WHATEVER THE INPUT: true; the input reads as it did. -/
def fnExactNodeOkSpec : ChangeSpec := { name := "fnExactNodeOk", fn := fun _ => fun
  | [d] => { results := [.lit (.bool true)], args := [d] }
  | _ => none }
def fnExactNodeOkRow : OpenClaim := { program := "ytafahdjaleeinaa", sum := "5734128108d3fafa896051d50896b29433a6d3ac4809988daacc99ebb94834cb", func := "loop.example/hagioscope/laws.FnExactNodeOk", spec := "fnExactNodeOk", apart := false }
def FnExactNodeOkSaid : Prop := fnExactNodeOkRow.holds Try.pinned (OpenSpec.ofChange fnExactNodeOkSpec)

/-- ITS FALSE NEIGHBOUR: 'it returns false'. Refute it at one input. -/
def fnExactNodeOkWrong : ChangeSpec := { name := "fnExactNodeOk", fn := fun _ => fun
  | [d] => { results := [.lit (.bool false)], args := [d] }
  | _ => none }
def FnExactNodeOkWrongFalsely : Prop := fnExactNodeOkRow.holds Try.pinned (OpenSpec.ofChange fnExactNodeOkWrong)

/-- 'laws.FnExactLabelHas': WHATEVER THE INPUT: true; the input reads as it did. -/
def fnExactLabelHasSpec : ChangeSpec := { name := "fnExactLabelHas", fn := fun _ => fun
  | [d1, d2] => { results := [.lit (.bool true)], args := [d1, d2] }
  | _ => none }
def fnExactLabelHasRow : OpenClaim := { program := "ytafahdjaleeinaa", sum := "5734128108d3fafa896051d50896b29433a6d3ac4809988daacc99ebb94834cb", func := "loop.example/hagioscope/laws.FnExactLabelHas", spec := "fnExactLabelHas", apart := false }
def FnExactLabelHasSaid : Prop := fnExactLabelHasRow.holds Try.pinned (OpenSpec.ofChange fnExactLabelHasSpec)

/-- ITS FALSE NEIGHBOUR: 'it returns false'. Refute it at one input. -/
def fnExactLabelHasWrong : ChangeSpec := { name := "fnExactLabelHas", fn := fun _ => fun
  | [d1, d2] => { results := [.lit (.bool false)], args := [d1, d2] }
  | _ => none }
def FnExactLabelHasWrongFalsely : Prop := fnExactLabelHasRow.holds Try.pinned (OpenSpec.ofChange fnExactLabelHasWrong)

/-- 'laws.FnExactPackNum': WHATEVER THE INPUT: true; the input reads as it did. -/
def fnExactPackNumSpec : ChangeSpec := { name := "fnExactPackNum", fn := fun _ => fun
  | [d] => { results := [.lit (.bool true)], args := [d] }
  | _ => none }
def fnExactPackNumRow : OpenClaim := { program := "ytafahdjaleeinaa", sum := "5734128108d3fafa896051d50896b29433a6d3ac4809988daacc99ebb94834cb", func := "loop.example/hagioscope/laws.FnExactPackNum", spec := "fnExactPackNum", apart := false }
def FnExactPackNumSaid : Prop := fnExactPackNumRow.holds Try.pinned (OpenSpec.ofChange fnExactPackNumSpec)

/-- ITS FALSE NEIGHBOUR: 'it returns false'. Refute it at one input. -/
def fnExactPackNumWrong : ChangeSpec := { name := "fnExactPackNum", fn := fun _ => fun
  | [d] => { results := [.lit (.bool false)], args := [d] }
  | _ => none }
def FnExactPackNumWrongFalsely : Prop := fnExactPackNumRow.holds Try.pinned (OpenSpec.ofChange fnExactPackNumWrong)

/-- 'laws.FnExactLabelUnder': WHATEVER THE INPUT: true; the input reads as it did. -/
def fnExactLabelUnderSpec : ChangeSpec := { name := "fnExactLabelUnder", fn := fun _ => fun
  | [d1, d2] => { results := [.lit (.bool true)], args := [d1, d2] }
  | _ => none }
def fnExactLabelUnderRow : OpenClaim := { program := "ytafahdjaleeinaa", sum := "5734128108d3fafa896051d50896b29433a6d3ac4809988daacc99ebb94834cb", func := "loop.example/hagioscope/laws.FnExactLabelUnder", spec := "fnExactLabelUnder", apart := false }
def FnExactLabelUnderSaid : Prop := fnExactLabelUnderRow.holds Try.pinned (OpenSpec.ofChange fnExactLabelUnderSpec)

/-- ITS FALSE NEIGHBOUR: 'it returns false'. Refute it at one input. -/
def fnExactLabelUnderWrong : ChangeSpec := { name := "fnExactLabelUnder", fn := fun _ => fun
  | [d1, d2] => { results := [.lit (.bool false)], args := [d1, d2] }
  | _ => none }
def FnExactLabelUnderWrongFalsely : Prop := fnExactLabelUnderRow.holds Try.pinned (OpenSpec.ofChange fnExactLabelUnderWrong)

/-- 'laws.FnExactNodeCode': WHATEVER THE INPUT: true; the input reads as it did. -/
def fnExactNodeCodeSpec : ChangeSpec := { name := "fnExactNodeCode", fn := fun _ => fun
  | [d] => { results := [.lit (.bool true)], args := [d] }
  | _ => none }
def fnExactNodeCodeRow : OpenClaim := { program := "ytafahdjaleeinaa", sum := "5734128108d3fafa896051d50896b29433a6d3ac4809988daacc99ebb94834cb", func := "loop.example/hagioscope/laws.FnExactNodeCode", spec := "fnExactNodeCode", apart := false }
def FnExactNodeCodeSaid : Prop := fnExactNodeCodeRow.holds Try.pinned (OpenSpec.ofChange fnExactNodeCodeSpec)

/-- ITS FALSE NEIGHBOUR: 'it returns false'. Refute it at one input. -/
def fnExactNodeCodeWrong : ChangeSpec := { name := "fnExactNodeCode", fn := fun _ => fun
  | [d] => { results := [.lit (.bool false)], args := [d] }
  | _ => none }
def FnExactNodeCodeWrongFalsely : Prop := fnExactNodeCodeRow.holds Try.pinned (OpenSpec.ofChange fnExactNodeCodeWrong)

/-- 'laws.FnExactNumAt': WHATEVER THE INPUT: true; the input reads as it did. -/
def fnExactNumAtSpec : ChangeSpec := { name := "fnExactNumAt", fn := fun _ => fun
  | [d1, d2] => { results := [.lit (.bool true)], args := [d1, d2] }
  | _ => none }
def fnExactNumAtRow : OpenClaim := { program := "ytafahdjaleeinaa", sum := "5734128108d3fafa896051d50896b29433a6d3ac4809988daacc99ebb94834cb", func := "loop.example/hagioscope/laws.FnExactNumAt", spec := "fnExactNumAt", apart := false }
def FnExactNumAtSaid : Prop := fnExactNumAtRow.holds Try.pinned (OpenSpec.ofChange fnExactNumAtSpec)

/-- ITS FALSE NEIGHBOUR: 'it returns false'. Refute it at one input. -/
def fnExactNumAtWrong : ChangeSpec := { name := "fnExactNumAt", fn := fun _ => fun
  | [d1, d2] => { results := [.lit (.bool false)], args := [d1, d2] }
  | _ => none }
def FnExactNumAtWrongFalsely : Prop := fnExactNumAtRow.holds Try.pinned (OpenSpec.ofChange fnExactNumAtWrong)

/-- 'laws.FnExactLabelJoin': WHATEVER THE INPUT: true; the input reads as it did. -/
def fnExactLabelJoinSpec : ChangeSpec := { name := "fnExactLabelJoin", fn := fun _ => fun
  | [d1, d2] => { results := [.lit (.bool true)], args := [d1, d2] }
  | _ => none }
def fnExactLabelJoinRow : OpenClaim := { program := "ytafahdjaleeinaa", sum := "5734128108d3fafa896051d50896b29433a6d3ac4809988daacc99ebb94834cb", func := "loop.example/hagioscope/laws.FnExactLabelJoin", spec := "fnExactLabelJoin", apart := false }
def FnExactLabelJoinSaid : Prop := fnExactLabelJoinRow.holds Try.pinned (OpenSpec.ofChange fnExactLabelJoinSpec)

/-- ITS FALSE NEIGHBOUR: 'it returns false'. Refute it at one input. -/
def fnExactLabelJoinWrong : ChangeSpec := { name := "fnExactLabelJoin", fn := fun _ => fun
  | [d1, d2] => { results := [.lit (.bool false)], args := [d1, d2] }
  | _ => none }
def FnExactLabelJoinWrongFalsely : Prop := fnExactLabelJoinRow.holds Try.pinned (OpenSpec.ofChange fnExactLabelJoinWrong)

/-- 'laws.FnExactLabelMeet': WHATEVER THE INPUT: true; the input reads as it did. -/
def fnExactLabelMeetSpec : ChangeSpec := { name := "fnExactLabelMeet", fn := fun _ => fun
  | [d1, d2] => { results := [.lit (.bool true)], args := [d1, d2] }
  | _ => none }
def fnExactLabelMeetRow : OpenClaim := { program := "ytafahdjaleeinaa", sum := "5734128108d3fafa896051d50896b29433a6d3ac4809988daacc99ebb94834cb", func := "loop.example/hagioscope/laws.FnExactLabelMeet", spec := "fnExactLabelMeet", apart := false }
def FnExactLabelMeetSaid : Prop := fnExactLabelMeetRow.holds Try.pinned (OpenSpec.ofChange fnExactLabelMeetSpec)

/-- ITS FALSE NEIGHBOUR: 'it returns false'. Refute it at one input. -/
def fnExactLabelMeetWrong : ChangeSpec := { name := "fnExactLabelMeet", fn := fun _ => fun
  | [d1, d2] => { results := [.lit (.bool false)], args := [d1, d2] }
  | _ => none }
def FnExactLabelMeetWrongFalsely : Prop := fnExactLabelMeetRow.holds Try.pinned (OpenSpec.ofChange fnExactLabelMeetWrong)

/-- 'laws.FnExactLabelMany': WHATEVER THE INPUT: true; the input reads as it did. -/
def fnExactLabelManySpec : ChangeSpec := { name := "fnExactLabelMany", fn := fun _ => fun
  | [d] => { results := [.lit (.bool true)], args := [d] }
  | _ => none }
def fnExactLabelManyRow : OpenClaim := { program := "ytafahdjaleeinaa", sum := "5734128108d3fafa896051d50896b29433a6d3ac4809988daacc99ebb94834cb", func := "loop.example/hagioscope/laws.FnExactLabelMany", spec := "fnExactLabelMany", apart := false }
def FnExactLabelManySaid : Prop := fnExactLabelManyRow.holds Try.pinned (OpenSpec.ofChange fnExactLabelManySpec)

/-- ITS FALSE NEIGHBOUR: 'it returns false'. Refute it at one input. -/
def fnExactLabelManyWrong : ChangeSpec := { name := "fnExactLabelMany", fn := fun _ => fun
  | [d] => { results := [.lit (.bool false)], args := [d] }
  | _ => none }
def FnExactLabelManyWrongFalsely : Prop := fnExactLabelManyRow.holds Try.pinned (OpenSpec.ofChange fnExactLabelManyWrong)

/-- 'laws.FnExactEdgeOk': WHATEVER THE INPUT: true; the input reads as it did. -/
def fnExactEdgeOkSpec : ChangeSpec := { name := "fnExactEdgeOk", fn := fun _ => fun
  | [d] => { results := [.lit (.bool true)], args := [d] }
  | _ => none }
def fnExactEdgeOkRow : OpenClaim := { program := "ytafahdjaleeinaa", sum := "5734128108d3fafa896051d50896b29433a6d3ac4809988daacc99ebb94834cb", func := "loop.example/hagioscope/laws.FnExactEdgeOk", spec := "fnExactEdgeOk", apart := false }
def FnExactEdgeOkSaid : Prop := fnExactEdgeOkRow.holds Try.pinned (OpenSpec.ofChange fnExactEdgeOkSpec)

/-- ITS FALSE NEIGHBOUR: 'it returns false'. Refute it at one input. -/
def fnExactEdgeOkWrong : ChangeSpec := { name := "fnExactEdgeOk", fn := fun _ => fun
  | [d] => { results := [.lit (.bool false)], args := [d] }
  | _ => none }
def FnExactEdgeOkWrongFalsely : Prop := fnExactEdgeOkRow.holds Try.pinned (OpenSpec.ofChange fnExactEdgeOkWrong)

/- THE SECOND FORM. 'bulk': how many values and letters a reading holds, each counted each time it is reached (what is shared counts as often as it is met; a slice's spare places count too). A statement '..UptoSaid' is the law's where the arguments, and the package variables that the reading takes, are together of bulk at most 1048576: NARROWER than '..Said'. Prove '..Said' where nothing that the law and all that it calls make is longer than what came in: it says more and counts as full. Else prove '..UptoSaid'. A law counts once. -/
mutual
def uptoBulk {H : Type} : DataW H → Nat
  | .lit (.string bytes) => bytes.length + 1
  | .lit _ => 1
  | .nil => 1
  | .ptr d => uptoBulk d + 1
  | .slice elems spare => uptoBulkAll elems + uptoBulkAll spare + 1
  | .agg parts => uptoBulkAll parts + 1
  | .iface _ d => uptoBulk d + 1
  | .map entries => uptoBulkEntries entries + 1
  | .held _ => 1
def uptoBulkAll {H : Type} : List (DataW H) → Nat
  | [] => 0
  | d :: r => uptoBulk d + uptoBulkAll r
def uptoBulkEntries {H : Type} : List (Lit × DataW H) → Nat
  | [] => 0
  | x :: r => uptoBulkEntry x + uptoBulkEntries r
def uptoBulkEntry {H : Type} : Lit × DataW H → Nat
  | (.string bytes, d) => bytes.length + uptoBulk d + 1
  | (_, d) => uptoBulk d + 1
 end
def uptoSmall : (H : Type) → List (DataW H) → Bool := fun _ ds => decide (uptoBulkAll ds ≤ 1048576)
def OpenSpec.upto (s : _root_.Go.ChangeSpec) : _root_.Go.OpenSpec := { _root_.Go.OpenSpec.ofChange s with cond := some uptoSmall }

/-- 'laws.FnExactConstants', WHERE WHAT IT READS IS OF BULK AT MOST 1048576: true; the input reads as it did. -/
def fnExactConstantsUptoRow : OpenClaim := { program := "ytafahdjaleeinaa", sum := "5734128108d3fafa896051d50896b29433a6d3ac4809988daacc99ebb94834cb", func := "loop.example/hagioscope/laws.FnExactConstants", spec := "fnExactConstants", apart := false, narrowed := true }
def FnExactConstantsUptoSaid : Prop := fnExactConstantsUptoRow.holds Try.pinned (OpenSpec.upto fnExactConstantsSpec)

/-- 'laws.FnExactLabelOk', WHERE WHAT IT READS IS OF BULK AT MOST 1048576: true; the input reads as it did. -/
def fnExactLabelOkUptoRow : OpenClaim := { program := "ytafahdjaleeinaa", sum := "5734128108d3fafa896051d50896b29433a6d3ac4809988daacc99ebb94834cb", func := "loop.example/hagioscope/laws.FnExactLabelOk", spec := "fnExactLabelOk", apart := false, narrowed := true }
def FnExactLabelOkUptoSaid : Prop := fnExactLabelOkUptoRow.holds Try.pinned (OpenSpec.upto fnExactLabelOkSpec)

/-- 'laws.FnExactNodeOk', WHERE WHAT IT READS IS OF BULK AT MOST 1048576: true; the input reads as it did. -/
def fnExactNodeOkUptoRow : OpenClaim := { program := "ytafahdjaleeinaa", sum := "5734128108d3fafa896051d50896b29433a6d3ac4809988daacc99ebb94834cb", func := "loop.example/hagioscope/laws.FnExactNodeOk", spec := "fnExactNodeOk", apart := false, narrowed := true }
def FnExactNodeOkUptoSaid : Prop := fnExactNodeOkUptoRow.holds Try.pinned (OpenSpec.upto fnExactNodeOkSpec)

/-- 'laws.FnExactLabelHas', WHERE WHAT IT READS IS OF BULK AT MOST 1048576: true; the input reads as it did. -/
def fnExactLabelHasUptoRow : OpenClaim := { program := "ytafahdjaleeinaa", sum := "5734128108d3fafa896051d50896b29433a6d3ac4809988daacc99ebb94834cb", func := "loop.example/hagioscope/laws.FnExactLabelHas", spec := "fnExactLabelHas", apart := false, narrowed := true }
def FnExactLabelHasUptoSaid : Prop := fnExactLabelHasUptoRow.holds Try.pinned (OpenSpec.upto fnExactLabelHasSpec)

/-- 'laws.FnExactPackNum', WHERE WHAT IT READS IS OF BULK AT MOST 1048576: true; the input reads as it did. -/
def fnExactPackNumUptoRow : OpenClaim := { program := "ytafahdjaleeinaa", sum := "5734128108d3fafa896051d50896b29433a6d3ac4809988daacc99ebb94834cb", func := "loop.example/hagioscope/laws.FnExactPackNum", spec := "fnExactPackNum", apart := false, narrowed := true }
def FnExactPackNumUptoSaid : Prop := fnExactPackNumUptoRow.holds Try.pinned (OpenSpec.upto fnExactPackNumSpec)

/-- 'laws.FnExactLabelUnder', WHERE WHAT IT READS IS OF BULK AT MOST 1048576: true; the input reads as it did. -/
def fnExactLabelUnderUptoRow : OpenClaim := { program := "ytafahdjaleeinaa", sum := "5734128108d3fafa896051d50896b29433a6d3ac4809988daacc99ebb94834cb", func := "loop.example/hagioscope/laws.FnExactLabelUnder", spec := "fnExactLabelUnder", apart := false, narrowed := true }
def FnExactLabelUnderUptoSaid : Prop := fnExactLabelUnderUptoRow.holds Try.pinned (OpenSpec.upto fnExactLabelUnderSpec)

/-- 'laws.FnExactNodeCode', WHERE WHAT IT READS IS OF BULK AT MOST 1048576: true; the input reads as it did. -/
def fnExactNodeCodeUptoRow : OpenClaim := { program := "ytafahdjaleeinaa", sum := "5734128108d3fafa896051d50896b29433a6d3ac4809988daacc99ebb94834cb", func := "loop.example/hagioscope/laws.FnExactNodeCode", spec := "fnExactNodeCode", apart := false, narrowed := true }
def FnExactNodeCodeUptoSaid : Prop := fnExactNodeCodeUptoRow.holds Try.pinned (OpenSpec.upto fnExactNodeCodeSpec)

/-- 'laws.FnExactNumAt', WHERE WHAT IT READS IS OF BULK AT MOST 1048576: true; the input reads as it did. -/
def fnExactNumAtUptoRow : OpenClaim := { program := "ytafahdjaleeinaa", sum := "5734128108d3fafa896051d50896b29433a6d3ac4809988daacc99ebb94834cb", func := "loop.example/hagioscope/laws.FnExactNumAt", spec := "fnExactNumAt", apart := false, narrowed := true }
def FnExactNumAtUptoSaid : Prop := fnExactNumAtUptoRow.holds Try.pinned (OpenSpec.upto fnExactNumAtSpec)

/-- 'laws.FnExactLabelJoin', WHERE WHAT IT READS IS OF BULK AT MOST 1048576: true; the input reads as it did. -/
def fnExactLabelJoinUptoRow : OpenClaim := { program := "ytafahdjaleeinaa", sum := "5734128108d3fafa896051d50896b29433a6d3ac4809988daacc99ebb94834cb", func := "loop.example/hagioscope/laws.FnExactLabelJoin", spec := "fnExactLabelJoin", apart := false, narrowed := true }
def FnExactLabelJoinUptoSaid : Prop := fnExactLabelJoinUptoRow.holds Try.pinned (OpenSpec.upto fnExactLabelJoinSpec)

/-- 'laws.FnExactLabelMeet', WHERE WHAT IT READS IS OF BULK AT MOST 1048576: true; the input reads as it did. -/
def fnExactLabelMeetUptoRow : OpenClaim := { program := "ytafahdjaleeinaa", sum := "5734128108d3fafa896051d50896b29433a6d3ac4809988daacc99ebb94834cb", func := "loop.example/hagioscope/laws.FnExactLabelMeet", spec := "fnExactLabelMeet", apart := false, narrowed := true }
def FnExactLabelMeetUptoSaid : Prop := fnExactLabelMeetUptoRow.holds Try.pinned (OpenSpec.upto fnExactLabelMeetSpec)

/-- 'laws.FnExactLabelMany', WHERE WHAT IT READS IS OF BULK AT MOST 1048576: true; the input reads as it did. -/
def fnExactLabelManyUptoRow : OpenClaim := { program := "ytafahdjaleeinaa", sum := "5734128108d3fafa896051d50896b29433a6d3ac4809988daacc99ebb94834cb", func := "loop.example/hagioscope/laws.FnExactLabelMany", spec := "fnExactLabelMany", apart := false, narrowed := true }
def FnExactLabelManyUptoSaid : Prop := fnExactLabelManyUptoRow.holds Try.pinned (OpenSpec.upto fnExactLabelManySpec)

/-- 'laws.FnExactEdgeOk', WHERE WHAT IT READS IS OF BULK AT MOST 1048576: true; the input reads as it did. -/
def fnExactEdgeOkUptoRow : OpenClaim := { program := "ytafahdjaleeinaa", sum := "5734128108d3fafa896051d50896b29433a6d3ac4809988daacc99ebb94834cb", func := "loop.example/hagioscope/laws.FnExactEdgeOk", spec := "fnExactEdgeOk", apart := false, narrowed := true }
def FnExactEdgeOkUptoSaid : Prop := fnExactEdgeOkUptoRow.holds Try.pinned (OpenSpec.upto fnExactEdgeOkSpec)

end Rows
end Go.Proofs.Ytafahdjaleeinaa
