/- What the row of FnExactRowAt opens: the law's statement over plain data (Pure), and how each parameter's reading gives that data. -/
import Derived.Test.YtomkkhkfenmdlaaQFnExactRowAtx3
import Derived.ProofKit
import Derived.WalkKit
import Derived.Deep.Slices
import Derived.Deep.Strs
import Derived.Lib.SmallJoins
import Derived.ChangeSame
import Derived.Below
namespace Go.Proofs.Ytomkkhkfenmdlaa.QFnExactRowAt
open Go.RowKit Go.ChangeShapes Go.WideShapes Go.Proofs.YtomkkhkfenmdlaaW.PrintWords Go.Proofs.YtomkkhkfenmdlaaW.PrintLast
set_option linter.unusedVariables false
section
variable {H : Type} {enc : TypeId × Value → H} {w : World} {base : Nat} {spare : Nat → Bool} {held : Bool}
end
/-- THE ONE PURE STATEMENT of laws_FnExactRowAt. -/
def laws_FnExactRowAt.Pure : Prop := ∀ (a0 : ByteArray) (a1 : Int), a0.size ≤ 140737488351232 → (Lit.int .i64 a1).wf = true → ∃ k, laws_FnExactRowAt.f k a0 a1 = some true
end Go.Proofs.Ytomkkhkfenmdlaa.QFnExactRowAt
