/- What the row of FnExactLabelRead opens: the law's statement over plain data (Pure), and how each parameter's reading gives that data. -/
import Derived.Test.YtomkkhkfenmdlaaDoorQFnExactLabelReadx1
import Derived.ProofKit
import Derived.WalkKit
import Derived.Deep.Slices
import Derived.Deep.Strs
import Derived.Lib.SmallJoins
import Derived.ChangeSame
import Derived.Below
namespace Go.Proofs.YtomkkhkfenmdlaaDoor.QFnExactLabelRead
open Go.RowKit Go.ChangeShapes Go.WideShapes Go.Proofs.YtomkkhkfenmdlaaDoorW.PrintWords Go.Proofs.YtomkkhkfenmdlaaDoorW.PrintLast
set_option linter.unusedVariables false
section
variable {H : Type} {enc : TypeId × Value → H} {w : World} {base : Nat} {spare : Nat → Bool} {held : Bool}
end
/-- THE ONE PURE STATEMENT of laws_FnExactLabelRead. -/
def laws_FnExactLabelRead.Pure : Prop := ∀ (a0 : ByteArray), a0.size ≤ 140737488351232 → ∃ k, laws_FnExactLabelRead.f k a0 = some true
end Go.Proofs.YtomkkhkfenmdlaaDoor.QFnExactLabelRead
