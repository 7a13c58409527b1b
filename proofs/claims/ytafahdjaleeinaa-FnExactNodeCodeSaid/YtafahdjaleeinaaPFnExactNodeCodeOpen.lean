/- What the row of FnExactNodeCode opens: the law's statement over plain data (Pure), and how each parameter's reading gives that data. -/
import Derived.Test.YtafahdjaleeinaaPFnExactNodeCodex1
import Derived.ProofKit
import Derived.WalkKit
import Derived.Deep.Slices
import Derived.Deep.Strs
import Derived.Lib.SmallJoins
import Derived.ChangeSame
import Derived.Below
namespace Go.Proofs.Ytafahdjaleeinaa.PFnExactNodeCode
open Go.RowKit Go.ChangeShapes Go.WideShapes Go.Proofs.YtafahdjaleeinaaW.PrintWords Go.Proofs.YtafahdjaleeinaaW.PrintLast
set_option linter.unusedVariables false
theorem lst2 {α : Type} {l : List α} (h : l.length = 2) : ∃ c0 c1, l = [c0, c1] := by
  match l, h with
  | [c0, c1], _ => exact ⟨c0, c1, rfl⟩
theorem arr2 {α : Type} {a : Array α} (h : a.size = 2) : ∃ c0 c1, a = #[c0, c1] := by
  obtain ⟨l⟩ := a
  obtain ⟨c0, c1, rfl⟩ := lst2 (l := l) (by simpa using h)
  exact ⟨c0, c1, rfl⟩
section
variable {H : Type} {enc : TypeId × Value → H} {w : World} {base : Nat} {spare : Nat → Bool} {held : Bool}
end
/-- THE ONE PURE STATEMENT of laws_FnExactNodeCode. -/
def laws_FnExactNodeCode.Pure : Prop := ∀ (a0_0 : Int) (a0_1 : Int), (Lit.int .i64 a0_0).wf = true → (Lit.int .i64 a0_1).wf = true → laws_FnExactNodeCode.f a0_0 a0_1 = some true
end Go.Proofs.Ytafahdjaleeinaa.PFnExactNodeCode
