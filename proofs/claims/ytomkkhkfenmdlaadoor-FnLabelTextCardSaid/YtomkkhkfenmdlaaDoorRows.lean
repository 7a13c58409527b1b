/-
  NARROWER THAN 'FOR EVERY INPUT', by the rows' own cells (each row's printed sentence says how): FnExactLabelText: laid · FnExactLabelRead: laid · FnLabelText: laid.
  DERIVED. THE GIVEN ROWS OF THIS SEAT. 3 by the template 'for every input the law returns true; each argument reads behind the call as it read before'; 0 by the template 'total and deterministic' (their statements: YtomkkhkfenmdlaaDoorTotals.lean).
  GIVEN WITH THE SEED: the statements are not yours to turn. If you find one false, say at which input.
  Laid BY PROGRAM, IN A SANDBOX (cutbox-rows.mjs): the forced cells as the released guide's own fill.sh prints them over the translation 545fc111f27f568c… (all of the seat's roots in one cut). By AI agents, Wed Nov 11 2026. No macro, syntax, notation, axiom, sorry.
-/
import Derived.Test.YtomkkhkfenmdlaaDoorChecked
import GoSem.Claim
import GoSem.ClaimJoined
import GoSem.ClaimMapViews
import Derived.JoinedTies
import Derived.KernelRfl
namespace Go.Proofs.YtomkkhkfenmdlaaDoor
/- THE CELL 'sum', in the pinned program and in every row, IS THE sha256 OF THE DUMP (.gsa) THAT YtomkkhkfenmdlaaDoorProg.lean LOADS. Nothing in Lean hashes anything: it is a label: what it is worth is what the hold of that sum in a sandbox is worth. -/
noncomputable def Tryd.pinned : Pinned := { name := "ytomkkhkfenmdlaadoor", sum := "545fc111f27f568caadb245eb9560fa5c49a5f7fa6f7706567691e621b6d562a", checked := Tryd.checked }
namespace Rows
def none {H : Type} : Left H := { results := [], args := [] }

/- WHAT THE LISTED PACKAGE-LEVEL VARIABLES READ AS WHEN THE CALL BEGINS. Each datum BY PROGRAM (the guide's laid-datum.mjs) off the statement by which the dump's own 'gosem.cut.vars' lays the variable. In a bare row this is a premise. The card (YtomkkhkfenmdlaaDoorCards.lean) ties it to the program's text. -/
def laid_loop_example_hagioscope_impl_labelTexts {H : Type} : DataW H := .agg [.lit (.string [45]), .lit (.string [97]), .lit (.string [98]), .lit (.string [97, 98]), .lit (.string [99]), .lit (.string [97, 99]), .lit (.string [98, 99]), .lit (.string [97, 98, 99])]

/-- 'laws.FnExactLabelText': WHATEVER THE INPUT: true; the input reads as it did. -/
def fnExactLabelTextSpec : ChangeSpec := { name := "fnExactLabelText", vars := ["loop.example/hagioscope/impl.labelTexts"], fn := fun _ => fun
  | [d, g1] => { results := [.lit (.bool true)], args := [d], vars := [g1] }
  | _ => none }
def fnExactLabelTextRow : OpenClaim := { program := "ytomkkhkfenmdlaadoor", sum := "545fc111f27f568caadb245eb9560fa5c49a5f7fa6f7706567691e621b6d562a", func := "loop.example/hagioscope/laws.FnExactLabelText", spec := "fnExactLabelText", named := ["loop.example/hagioscope/impl.labelTexts"], apart := false, laid := [("loop.example/hagioscope/impl.labelTexts", laid_loop_example_hagioscope_impl_labelTexts)] }
def FnExactLabelTextSaid : Prop := fnExactLabelTextRow.holds Tryd.pinned (OpenSpec.ofChange fnExactLabelTextSpec)

/-- ITS FALSE NEIGHBOUR: 'it returns false'. Refute it at one input. -/
def fnExactLabelTextWrong : ChangeSpec := { name := "fnExactLabelText", vars := ["loop.example/hagioscope/impl.labelTexts"], fn := fun _ => fun
  | [d, g1] => { results := [.lit (.bool false)], args := [d], vars := [g1] }
  | _ => none }
def FnExactLabelTextWrongFalsely : Prop := fnExactLabelTextRow.holds Tryd.pinned (OpenSpec.ofChange fnExactLabelTextWrong)

/-- 'laws.FnExactLabelRead': WHATEVER THE INPUT: true; the input reads as it did. -/
def fnExactLabelReadSpec : ChangeSpec := { name := "fnExactLabelRead", vars := ["loop.example/hagioscope/impl.labelTexts"], fn := fun _ => fun
  | [d, g1] => { results := [.lit (.bool true)], args := [d], vars := [g1] }
  | _ => none }
def fnExactLabelReadRow : OpenClaim := { program := "ytomkkhkfenmdlaadoor", sum := "545fc111f27f568caadb245eb9560fa5c49a5f7fa6f7706567691e621b6d562a", func := "loop.example/hagioscope/laws.FnExactLabelRead", spec := "fnExactLabelRead", named := ["loop.example/hagioscope/impl.labelTexts"], apart := false, laid := [("loop.example/hagioscope/impl.labelTexts", laid_loop_example_hagioscope_impl_labelTexts)] }
def FnExactLabelReadSaid : Prop := fnExactLabelReadRow.holds Tryd.pinned (OpenSpec.ofChange fnExactLabelReadSpec)

/-- ITS FALSE NEIGHBOUR: 'it returns false'. Refute it at one input. -/
def fnExactLabelReadWrong : ChangeSpec := { name := "fnExactLabelRead", vars := ["loop.example/hagioscope/impl.labelTexts"], fn := fun _ => fun
  | [d, g1] => { results := [.lit (.bool false)], args := [d], vars := [g1] }
  | _ => none }
def FnExactLabelReadWrongFalsely : Prop := fnExactLabelReadRow.holds Tryd.pinned (OpenSpec.ofChange fnExactLabelReadWrong)

/-- 'laws.FnLabelText': WHATEVER THE INPUT: true; the input reads as it did. -/
def fnLabelTextSpec : ChangeSpec := { name := "fnLabelText", vars := ["loop.example/hagioscope/impl.labelTexts"], fn := fun _ => fun
  | [d1, d2, g1] => { results := [.lit (.bool true)], args := [d1, d2], vars := [g1] }
  | _ => none }
def fnLabelTextRow : OpenClaim := { program := "ytomkkhkfenmdlaadoor", sum := "545fc111f27f568caadb245eb9560fa5c49a5f7fa6f7706567691e621b6d562a", func := "loop.example/hagioscope/laws.FnLabelText", spec := "fnLabelText", named := ["loop.example/hagioscope/impl.labelTexts"], apart := false, laid := [("loop.example/hagioscope/impl.labelTexts", laid_loop_example_hagioscope_impl_labelTexts)] }
def FnLabelTextSaid : Prop := fnLabelTextRow.holds Tryd.pinned (OpenSpec.ofChange fnLabelTextSpec)

/-- ITS FALSE NEIGHBOUR: 'it returns false'. Refute it at one input. -/
def fnLabelTextWrong : ChangeSpec := { name := "fnLabelText", vars := ["loop.example/hagioscope/impl.labelTexts"], fn := fun _ => fun
  | [d1, d2, g1] => { results := [.lit (.bool false)], args := [d1, d2], vars := [g1] }
  | _ => none }
def FnLabelTextWrongFalsely : Prop := fnLabelTextRow.holds Tryd.pinned (OpenSpec.ofChange fnLabelTextWrong)

/- THE SECOND FORM. 'bulk': how many values and letters a reading holds, each counted each time it is reached (what is shared counts as often as it is met; a slice's spare places count too). A statement '..UptoSaid' is the law's where the arguments, and the package variables that the reading takes, are together of bulk at most 1048576: NARROWER than '..Said'. Prove '..Said' where nothing that the law and all that it calls make is longer than what came in: it says more and counts as full. Else prove '..UptoSaid'. A law counts once. -/
mutual
def uptoBulk {H : Type} : DataW H → Nat
  | .lit (.string bytes) => bytes.length + 1
  | .lit _ => 1
  | .nil => 1
  | .ptr d => uptoBulk d + 1
  | .slice elems spare => uptoBulkAll elems + uptoBulkAll spare + 1
  | .agg parts => uptoBulkAll parts + 1
  | .iface _ d => uptoBulk d + 1
  | .map entries => uptoBulkEntries entries + 1
  | .held _ => 1
def uptoBulkAll {H : Type} : List (DataW H) → Nat
  | [] => 0
  | d :: r => uptoBulk d + uptoBulkAll r
def uptoBulkEntries {H : Type} : List (Lit × DataW H) → Nat
  | [] => 0
  | x :: r => uptoBulkEntry x + uptoBulkEntries r
def uptoBulkEntry {H : Type} : Lit × DataW H → Nat
  | (.string bytes, d) => bytes.length + uptoBulk d + 1
  | (_, d) => uptoBulk d + 1
 end
def uptoSmall : (H : Type) → List (DataW H) → Bool := fun _ ds => decide (uptoBulkAll ds ≤ 1048576)
def OpenSpec.upto (s : _root_.Go.ChangeSpec) : _root_.Go.OpenSpec := { _root_.Go.OpenSpec.ofChange s with cond := some uptoSmall }

/-- 'laws.FnExactLabelText', WHERE WHAT IT READS IS OF BULK AT MOST 1048576: true; the input reads as it did. -/
def fnExactLabelTextUptoRow : OpenClaim := { program := "ytomkkhkfenmdlaadoor", sum := "545fc111f27f568caadb245eb9560fa5c49a5f7fa6f7706567691e621b6d562a", func := "loop.example/hagioscope/laws.FnExactLabelText", spec := "fnExactLabelText", named := ["loop.example/hagioscope/impl.labelTexts"], apart := false, laid := [("loop.example/hagioscope/impl.labelTexts", laid_loop_example_hagioscope_impl_labelTexts)], narrowed := true }
def FnExactLabelTextUptoSaid : Prop := fnExactLabelTextUptoRow.holds Tryd.pinned (OpenSpec.upto fnExactLabelTextSpec)

/-- 'laws.FnExactLabelRead', WHERE WHAT IT READS IS OF BULK AT MOST 1048576: true; the input reads as it did. -/
def fnExactLabelReadUptoRow : OpenClaim := { program := "ytomkkhkfenmdlaadoor", sum := "545fc111f27f568caadb245eb9560fa5c49a5f7fa6f7706567691e621b6d562a", func := "loop.example/hagioscope/laws.FnExactLabelRead", spec := "fnExactLabelRead", named := ["loop.example/hagioscope/impl.labelTexts"], apart := false, laid := [("loop.example/hagioscope/impl.labelTexts", laid_loop_example_hagioscope_impl_labelTexts)], narrowed := true }
def FnExactLabelReadUptoSaid : Prop := fnExactLabelReadUptoRow.holds Tryd.pinned (OpenSpec.upto fnExactLabelReadSpec)

/-- 'laws.FnLabelText', WHERE WHAT IT READS IS OF BULK AT MOST 1048576: true; the input reads as it did. -/
def fnLabelTextUptoRow : OpenClaim := { program := "ytomkkhkfenmdlaadoor", sum := "545fc111f27f568caadb245eb9560fa5c49a5f7fa6f7706567691e621b6d562a", func := "loop.example/hagioscope/laws.FnLabelText", spec := "fnLabelText", named := ["loop.example/hagioscope/impl.labelTexts"], apart := false, laid := [("loop.example/hagioscope/impl.labelTexts", laid_loop_example_hagioscope_impl_labelTexts)], narrowed := true }
def FnLabelTextUptoSaid : Prop := fnLabelTextUptoRow.holds Tryd.pinned (OpenSpec.upto fnLabelTextSpec)

end Rows
end Go.Proofs.YtomkkhkfenmdlaaDoor
