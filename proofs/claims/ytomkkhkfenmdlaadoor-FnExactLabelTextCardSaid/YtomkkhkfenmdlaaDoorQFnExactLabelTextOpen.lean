/- What the row of FnExactLabelText opens: the law's statement over plain data (Pure), and how each parameter's reading gives that data. -/
import Derived.Test.YtomkkhkfenmdlaaDoorQFnExactLabelTextx1
import Derived.ProofKit
import Derived.WalkKit
import Derived.Deep.Slices
import Derived.Deep.Strs
import Derived.Lib.SmallJoins
import Derived.ChangeSame
import Derived.Below
namespace Go.Proofs.YtomkkhkfenmdlaaDoor.QFnExactLabelText
open Go.RowKit Go.ChangeShapes Go.WideShapes Go.Proofs.YtomkkhkfenmdlaaDoorW.PrintWords Go.Proofs.YtomkkhkfenmdlaaDoorW.PrintLast
set_option linter.unusedVariables false
section
variable {H : Type} {enc : TypeId × Value → H} {w : World} {base : Nat} {spare : Nat → Bool} {held : Bool}
end
/-- THE ONE PURE STATEMENT of laws_FnExactLabelText. -/
def laws_FnExactLabelText.Pure : Prop := ∀ (a0 : Int), (Lit.int .i64 a0).wf = true → ∃ k, laws_FnExactLabelText.f k a0 = some true
end Go.Proofs.YtomkkhkfenmdlaaDoor.QFnExactLabelText
