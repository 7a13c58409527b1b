/-
  No cell of these rows narrows 'for every input' (looked for: loops, veiled, ifaces, maps, wideKeys, modest, calm, conditions, laid).
  DERIVED. THE GIVEN ROWS OF THIS SEAT. 9 by the template 'for every input the law returns true; each argument reads behind the call as it read before'; 0 by the template 'total and deterministic' (their statements: YtomkkhkfenmdlaaTotals.lean).
  GIVEN WITH THE SEED: the statements are not yours to turn. If you find one false, say at which input.
  Laid BY PROGRAM, IN A SANDBOX (cutbox-rows.mjs): the forced cells as the released guide's own fill.sh prints them over the translation 99c7ff4d6566b52b… (all of the seat's roots in one cut). By AI agents, Wed Nov 11 2026. No macro, syntax, notation, axiom, sorry.
-/
import Derived.Test.YtomkkhkfenmdlaaChecked
import GoSem.Claim
import GoSem.ClaimJoined
import GoSem.ClaimMapViews
import Derived.JoinedTies
import Derived.KernelRfl
namespace Go.Proofs.Ytomkkhkfenmdlaa
/- THE CELL 'sum', in the pinned program and in every row, IS THE sha256 OF THE DUMP (.gsa) THAT YtomkkhkfenmdlaaProg.lean LOADS. Nothing in Lean hashes anything: it is a label: what it is worth is what the hold of that sum in a sandbox is worth. -/
noncomputable def Try.pinned : Pinned := { name := "ytomkkhkfenmdlaa", sum := "99c7ff4d6566b52be0251170056f9366c9a282ef44d9ab18158338f3ce4e3506", checked := Try.checked }
namespace Rows
def none {H : Type} : Left H := { results := [], args := [] }

/-- 'laws.FnExactStoreSame': WHATEVER THE INPUT: true; the input reads as it did. -/
def fnExactStoreSameSpec : ChangeSpec := { name := "fnExactStoreSame", fn := fun _ => fun
  | [d1, d2] => { results := [.lit (.bool true)], args := [d1, d2] }
  | _ => none }
def fnExactStoreSameRow : OpenClaim := { program := "ytomkkhkfenmdlaa", sum := "99c7ff4d6566b52be0251170056f9366c9a282ef44d9ab18158338f3ce4e3506", func := "loop.example/hagioscope/laws.FnExactStoreSame", spec := "fnExactStoreSame", apart := false }
def FnExactStoreSameSaid : Prop := fnExactStoreSameRow.holds Try.pinned (OpenSpec.ofChange fnExactStoreSameSpec)

/-- ITS FALSE NEIGHBOUR: 'it returns false'. Refute it at one input. -/
def fnExactStoreSameWrong : ChangeSpec := { name := "fnExactStoreSame", fn := fun _ => fun
  | [d1, d2] => { results := [.lit (.bool false)], args := [d1, d2] }
  | _ => none }
def FnExactStoreSameWrongFalsely : Prop := fnExactStoreSameRow.holds Try.pinned (OpenSpec.ofChange fnExactStoreSameWrong)

/-- 'laws.FnExactOpLabel': WHATEVER THE INPUT: true; the input reads as it did. -/
def fnExactOpLabelSpec : ChangeSpec := { name := "fnExactOpLabel", fn := fun _ => fun
  | [d] => { results := [.lit (.bool true)], args := [d] }
  | _ => none }
def fnExactOpLabelRow : OpenClaim := { program := "ytomkkhkfenmdlaa", sum := "99c7ff4d6566b52be0251170056f9366c9a282ef44d9ab18158338f3ce4e3506", func := "loop.example/hagioscope/laws.FnExactOpLabel", spec := "fnExactOpLabel", apart := false }
def FnExactOpLabelSaid : Prop := fnExactOpLabelRow.holds Try.pinned (OpenSpec.ofChange fnExactOpLabelSpec)

/-- ITS FALSE NEIGHBOUR: 'it returns false'. Refute it at one input. -/
def fnExactOpLabelWrong : ChangeSpec := { name := "fnExactOpLabel", fn := fun _ => fun
  | [d] => { results := [.lit (.bool false)], args := [d] }
  | _ => none }
def FnExactOpLabelWrongFalsely : Prop := fnExactOpLabelRow.holds Try.pinned (OpenSpec.ofChange fnExactOpLabelWrong)

/-- 'laws.FnPackNum': WHATEVER THE INPUT: true; the input reads as it did. -/
def fnPackNumSpec : ChangeSpec := { name := "fnPackNum", fn := fun _ => fun
  | [d1, d2] => { results := [.lit (.bool true)], args := [d1, d2] }
  | _ => none }
def fnPackNumRow : OpenClaim := { program := "ytomkkhkfenmdlaa", sum := "99c7ff4d6566b52be0251170056f9366c9a282ef44d9ab18158338f3ce4e3506", func := "loop.example/hagioscope/laws.FnPackNum", spec := "fnPackNum", apart := false }
def FnPackNumSaid : Prop := fnPackNumRow.holds Try.pinned (OpenSpec.ofChange fnPackNumSpec)

/-- ITS FALSE NEIGHBOUR: 'it returns false'. Refute it at one input. -/
def fnPackNumWrong : ChangeSpec := { name := "fnPackNum", fn := fun _ => fun
  | [d1, d2] => { results := [.lit (.bool false)], args := [d1, d2] }
  | _ => none }
def FnPackNumWrongFalsely : Prop := fnPackNumRow.holds Try.pinned (OpenSpec.ofChange fnPackNumWrong)

/-- 'laws.FnEdgeOk': WHATEVER THE INPUT: true; the input reads as it did. -/
def fnEdgeOkSpec : ChangeSpec := { name := "fnEdgeOk", fn := fun _ => fun
  | [d] => { results := [.lit (.bool true)], args := [d] }
  | _ => none }
def fnEdgeOkRow : OpenClaim := { program := "ytomkkhkfenmdlaa", sum := "99c7ff4d6566b52be0251170056f9366c9a282ef44d9ab18158338f3ce4e3506", func := "loop.example/hagioscope/laws.FnEdgeOk", spec := "fnEdgeOk", apart := false }
def FnEdgeOkSaid : Prop := fnEdgeOkRow.holds Try.pinned (OpenSpec.ofChange fnEdgeOkSpec)

/-- ITS FALSE NEIGHBOUR: 'it returns false'. Refute it at one input. -/
def fnEdgeOkWrong : ChangeSpec := { name := "fnEdgeOk", fn := fun _ => fun
  | [d] => { results := [.lit (.bool false)], args := [d] }
  | _ => none }
def FnEdgeOkWrongFalsely : Prop := fnEdgeOkRow.holds Try.pinned (OpenSpec.ofChange fnEdgeOkWrong)

/-- 'laws.FnExactRowAt': WHATEVER THE INPUT: true; the input reads as it did. -/
def fnExactRowAtSpec : ChangeSpec := { name := "fnExactRowAt", fn := fun _ => fun
  | [d1, d2] => { results := [.lit (.bool true)], args := [d1, d2] }
  | _ => none }
def fnExactRowAtRow : OpenClaim := { program := "ytomkkhkfenmdlaa", sum := "99c7ff4d6566b52be0251170056f9366c9a282ef44d9ab18158338f3ce4e3506", func := "loop.example/hagioscope/laws.FnExactRowAt", spec := "fnExactRowAt", apart := false }
def FnExactRowAtSaid : Prop := fnExactRowAtRow.holds Try.pinned (OpenSpec.ofChange fnExactRowAtSpec)

/-- ITS FALSE NEIGHBOUR: 'it returns false'. Refute it at one input. -/
def fnExactRowAtWrong : ChangeSpec := { name := "fnExactRowAt", fn := fun _ => fun
  | [d1, d2] => { results := [.lit (.bool false)], args := [d1, d2] }
  | _ => none }
def FnExactRowAtWrongFalsely : Prop := fnExactRowAtRow.holds Try.pinned (OpenSpec.ofChange fnExactRowAtWrong)

/-- 'laws.FnExactStoreView': WHATEVER THE INPUT: true; the input reads as it did. -/
def fnExactStoreViewSpec : ChangeSpec := { name := "fnExactStoreView", fn := fun _ => fun
  | [d1, d2] => { results := [.lit (.bool true)], args := [d1, d2] }
  | _ => none }
def fnExactStoreViewRow : OpenClaim := { program := "ytomkkhkfenmdlaa", sum := "99c7ff4d6566b52be0251170056f9366c9a282ef44d9ab18158338f3ce4e3506", func := "loop.example/hagioscope/laws.FnExactStoreView", spec := "fnExactStoreView", apart := false }
def FnExactStoreViewSaid : Prop := fnExactStoreViewRow.holds Try.pinned (OpenSpec.ofChange fnExactStoreViewSpec)

/-- ITS FALSE NEIGHBOUR: 'it returns false'. Refute it at one input. -/
def fnExactStoreViewWrong : ChangeSpec := { name := "fnExactStoreView", fn := fun _ => fun
  | [d1, d2] => { results := [.lit (.bool false)], args := [d1, d2] }
  | _ => none }
def FnExactStoreViewWrongFalsely : Prop := fnExactStoreViewRow.holds Try.pinned (OpenSpec.ofChange fnExactStoreViewWrong)

/-- 'laws.FnExactGraphSame': WHATEVER THE INPUT: true; the input reads as it did. -/
def fnExactGraphSameSpec : ChangeSpec := { name := "fnExactGraphSame", fn := fun _ => fun
  | [d1, d2] => { results := [.lit (.bool true)], args := [d1, d2] }
  | _ => none }
def fnExactGraphSameRow : OpenClaim := { program := "ytomkkhkfenmdlaa", sum := "99c7ff4d6566b52be0251170056f9366c9a282ef44d9ab18158338f3ce4e3506", func := "loop.example/hagioscope/laws.FnExactGraphSame", spec := "fnExactGraphSame", apart := false }
def FnExactGraphSameSaid : Prop := fnExactGraphSameRow.holds Try.pinned (OpenSpec.ofChange fnExactGraphSameSpec)

/-- ITS FALSE NEIGHBOUR: 'it returns false'. Refute it at one input. -/
def fnExactGraphSameWrong : ChangeSpec := { name := "fnExactGraphSame", fn := fun _ => fun
  | [d1, d2] => { results := [.lit (.bool false)], args := [d1, d2] }
  | _ => none }
def FnExactGraphSameWrongFalsely : Prop := fnExactGraphSameRow.holds Try.pinned (OpenSpec.ofChange fnExactGraphSameWrong)

/-- 'laws.FnPackRowCut': WHATEVER THE INPUT: true; the input reads as it did. -/
def fnPackRowCutSpec : ChangeSpec := { name := "fnPackRowCut", fn := fun _ => fun
  | [d1, d2] => { results := [.lit (.bool true)], args := [d1, d2] }
  | _ => none }
def fnPackRowCutRow : OpenClaim := { program := "ytomkkhkfenmdlaa", sum := "99c7ff4d6566b52be0251170056f9366c9a282ef44d9ab18158338f3ce4e3506", func := "loop.example/hagioscope/laws.FnPackRowCut", spec := "fnPackRowCut", apart := false }
def FnPackRowCutSaid : Prop := fnPackRowCutRow.holds Try.pinned (OpenSpec.ofChange fnPackRowCutSpec)

/-- ITS FALSE NEIGHBOUR: 'it returns false'. Refute it at one input. -/
def fnPackRowCutWrong : ChangeSpec := { name := "fnPackRowCut", fn := fun _ => fun
  | [d1, d2] => { results := [.lit (.bool false)], args := [d1, d2] }
  | _ => none }
def FnPackRowCutWrongFalsely : Prop := fnPackRowCutRow.holds Try.pinned (OpenSpec.ofChange fnPackRowCutWrong)

/-- 'laws.FnPackRow': WHATEVER THE INPUT: true; the input reads as it did. -/
def fnPackRowSpec : ChangeSpec := { name := "fnPackRow", fn := fun _ => fun
  | [d1, d2] => { results := [.lit (.bool true)], args := [d1, d2] }
  | _ => none }
def fnPackRowRow : OpenClaim := { program := "ytomkkhkfenmdlaa", sum := "99c7ff4d6566b52be0251170056f9366c9a282ef44d9ab18158338f3ce4e3506", func := "loop.example/hagioscope/laws.FnPackRow", spec := "fnPackRow", apart := false }
def FnPackRowSaid : Prop := fnPackRowRow.holds Try.pinned (OpenSpec.ofChange fnPackRowSpec)

/-- ITS FALSE NEIGHBOUR: 'it returns false'. Refute it at one input. -/
def fnPackRowWrong : ChangeSpec := { name := "fnPackRow", fn := fun _ => fun
  | [d1, d2] => { results := [.lit (.bool false)], args := [d1, d2] }
  | _ => none }
def FnPackRowWrongFalsely : Prop := fnPackRowRow.holds Try.pinned (OpenSpec.ofChange fnPackRowWrong)

/- THE SECOND FORM. 'bulk': how many values and letters a reading holds, each counted each time it is reached (what is shared counts as often as it is met; a slice's spare places count too). A statement '..UptoSaid' is the law's where the arguments, and the package variables that the reading takes, are together of bulk at most 1048576: NARROWER than '..Said'. Prove '..Said' where nothing that the law and all that it calls make is longer than what came in: it says more and counts as full. Else prove '..UptoSaid'. A law counts once. -/
mutual
def uptoBulk {H : Type} : DataW H → Nat
  | .lit (.string bytes) => bytes.length + 1
  | .lit _ => 1
  | .nil => 1
  | .ptr d => uptoBulk d + 1
  | .slice elems spare => uptoBulkAll elems + uptoBulkAll spare + 1
  | .agg parts => uptoBulkAll parts + 1
  | .iface _ d => uptoBulk d + 1
  | .map entries => uptoBulkEntries entries + 1
  | .held _ => 1
def uptoBulkAll {H : Type} : List (DataW H) → Nat
  | [] => 0
  | d :: r => uptoBulk d + uptoBulkAll r
def uptoBulkEntries {H : Type} : List (Lit × DataW H) → Nat
  | [] => 0
  | x :: r => uptoBulkEntry x + uptoBulkEntries r
def uptoBulkEntry {H : Type} : Lit × DataW H → Nat
  | (.string bytes, d) => bytes.length + uptoBulk d + 1
  | (_, d) => uptoBulk d + 1
 end
def uptoSmall : (H : Type) → List (DataW H) → Bool := fun _ ds => decide (uptoBulkAll ds ≤ 1048576)
def OpenSpec.upto (s : _root_.Go.ChangeSpec) : _root_.Go.OpenSpec := { _root_.Go.OpenSpec.ofChange s with cond := some uptoSmall }

/-- 'laws.FnExactStoreSame', WHERE WHAT IT READS IS OF BULK AT MOST 1048576: true; the input reads as it did. -/
def fnExactStoreSameUptoRow : OpenClaim := { program := "ytomkkhkfenmdlaa", sum := "99c7ff4d6566b52be0251170056f9366c9a282ef44d9ab18158338f3ce4e3506", func := "loop.example/hagioscope/laws.FnExactStoreSame", spec := "fnExactStoreSame", apart := false, narrowed := true }
def FnExactStoreSameUptoSaid : Prop := fnExactStoreSameUptoRow.holds Try.pinned (OpenSpec.upto fnExactStoreSameSpec)

/-- 'laws.FnExactOpLabel', WHERE WHAT IT READS IS OF BULK AT MOST 1048576: true; the input reads as it did. -/
def fnExactOpLabelUptoRow : OpenClaim := { program := "ytomkkhkfenmdlaa", sum := "99c7ff4d6566b52be0251170056f9366c9a282ef44d9ab18158338f3ce4e3506", func := "loop.example/hagioscope/laws.FnExactOpLabel", spec := "fnExactOpLabel", apart := false, narrowed := true }
def FnExactOpLabelUptoSaid : Prop := fnExactOpLabelUptoRow.holds Try.pinned (OpenSpec.upto fnExactOpLabelSpec)

/-- 'laws.FnPackNum', WHERE WHAT IT READS IS OF BULK AT MOST 1048576: true; the input reads as it did. -/
def fnPackNumUptoRow : OpenClaim := { program := "ytomkkhkfenmdlaa", sum := "99c7ff4d6566b52be0251170056f9366c9a282ef44d9ab18158338f3ce4e3506", func := "loop.example/hagioscope/laws.FnPackNum", spec := "fnPackNum", apart := false, narrowed := true }
def FnPackNumUptoSaid : Prop := fnPackNumUptoRow.holds Try.pinned (OpenSpec.upto fnPackNumSpec)

/-- 'laws.FnEdgeOk', WHERE WHAT IT READS IS OF BULK AT MOST 1048576: true; the input reads as it did. -/
def fnEdgeOkUptoRow : OpenClaim := { program := "ytomkkhkfenmdlaa", sum := "99c7ff4d6566b52be0251170056f9366c9a282ef44d9ab18158338f3ce4e3506", func := "loop.example/hagioscope/laws.FnEdgeOk", spec := "fnEdgeOk", apart := false, narrowed := true }
def FnEdgeOkUptoSaid : Prop := fnEdgeOkUptoRow.holds Try.pinned (OpenSpec.upto fnEdgeOkSpec)

/-- 'laws.FnExactRowAt', WHERE WHAT IT READS IS OF BULK AT MOST 1048576: true; the input reads as it did. -/
def fnExactRowAtUptoRow : OpenClaim := { program := "ytomkkhkfenmdlaa", sum := "99c7ff4d6566b52be0251170056f9366c9a282ef44d9ab18158338f3ce4e3506", func := "loop.example/hagioscope/laws.FnExactRowAt", spec := "fnExactRowAt", apart := false, narrowed := true }
def FnExactRowAtUptoSaid : Prop := fnExactRowAtUptoRow.holds Try.pinned (OpenSpec.upto fnExactRowAtSpec)

/-- 'laws.FnExactStoreView', WHERE WHAT IT READS IS OF BULK AT MOST 1048576: true; the input reads as it did. -/
def fnExactStoreViewUptoRow : OpenClaim := { program := "ytomkkhkfenmdlaa", sum := "99c7ff4d6566b52be0251170056f9366c9a282ef44d9ab18158338f3ce4e3506", func := "loop.example/hagioscope/laws.FnExactStoreView", spec := "fnExactStoreView", apart := false, narrowed := true }
def FnExactStoreViewUptoSaid : Prop := fnExactStoreViewUptoRow.holds Try.pinned (OpenSpec.upto fnExactStoreViewSpec)

/-- 'laws.FnExactGraphSame', WHERE WHAT IT READS IS OF BULK AT MOST 1048576: true; the input reads as it did. -/
def fnExactGraphSameUptoRow : OpenClaim := { program := "ytomkkhkfenmdlaa", sum := "99c7ff4d6566b52be0251170056f9366c9a282ef44d9ab18158338f3ce4e3506", func := "loop.example/hagioscope/laws.FnExactGraphSame", spec := "fnExactGraphSame", apart := false, narrowed := true }
def FnExactGraphSameUptoSaid : Prop := fnExactGraphSameUptoRow.holds Try.pinned (OpenSpec.upto fnExactGraphSameSpec)

/-- 'laws.FnPackRowCut', WHERE WHAT IT READS IS OF BULK AT MOST 1048576: true; the input reads as it did. -/
def fnPackRowCutUptoRow : OpenClaim := { program := "ytomkkhkfenmdlaa", sum := "99c7ff4d6566b52be0251170056f9366c9a282ef44d9ab18158338f3ce4e3506", func := "loop.example/hagioscope/laws.FnPackRowCut", spec := "fnPackRowCut", apart := false, narrowed := true }
def FnPackRowCutUptoSaid : Prop := fnPackRowCutUptoRow.holds Try.pinned (OpenSpec.upto fnPackRowCutSpec)

/-- 'laws.FnPackRow', WHERE WHAT IT READS IS OF BULK AT MOST 1048576: true; the input reads as it did. -/
def fnPackRowUptoRow : OpenClaim := { program := "ytomkkhkfenmdlaa", sum := "99c7ff4d6566b52be0251170056f9366c9a282ef44d9ab18158338f3ce4e3506", func := "loop.example/hagioscope/laws.FnPackRow", spec := "fnPackRow", apart := false, narrowed := true }
def FnPackRowUptoSaid : Prop := fnPackRowUptoRow.holds Try.pinned (OpenSpec.upto fnPackRowSpec)

end Rows
end Go.Proofs.Ytomkkhkfenmdlaa
