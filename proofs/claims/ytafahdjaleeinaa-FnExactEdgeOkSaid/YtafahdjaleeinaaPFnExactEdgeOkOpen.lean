/- What the row of FnExactEdgeOk opens: the law's statement over plain data (Pure), and how each parameter's reading gives that data. -/
import Derived.Test.YtafahdjaleeinaaPFnExactEdgeOkx5
import Derived.ProofKit
import Derived.WalkKit
import Derived.Deep.Slices
import Derived.Deep.Strs
import Derived.Lib.SmallJoins
import Derived.ChangeSame
import Derived.Below
namespace Go.Proofs.Ytafahdjaleeinaa.PFnExactEdgeOk
open Go.RowKit Go.ChangeShapes Go.WideShapes Go.Proofs.YtafahdjaleeinaaW.PrintWords Go.Proofs.YtafahdjaleeinaaW.PrintLast
set_option linter.unusedVariables false
theorem lst5 {α : Type} {l : List α} (h : l.length = 5) : ∃ c0 c1 c2 c3 c4, l = [c0, c1, c2, c3, c4] := by
  match l, h with
  | [c0, c1, c2, c3, c4], _ => exact ⟨c0, c1, c2, c3, c4, rfl⟩
theorem arr5 {α : Type} {a : Array α} (h : a.size = 5) : ∃ c0 c1 c2 c3 c4, a = #[c0, c1, c2, c3, c4] := by
  obtain ⟨l⟩ := a
  obtain ⟨c0, c1, c2, c3, c4, rfl⟩ := lst5 (l := l) (by simpa using h)
  exact ⟨c0, c1, c2, c3, c4, rfl⟩
section
variable {H : Type} {enc : TypeId × Value → H} {w : World} {base : Nat} {spare : Nat → Bool} {held : Bool}
end
/-- THE ONE PURE STATEMENT of laws_FnExactEdgeOk. -/
def laws_FnExactEdgeOk.Pure : Prop := ∀ (a0_0 : Int) (a0_1_0 : Int) (a0_1_1 : Int) (a0_2_0 : Int) (a0_2_1 : Int), (Lit.int .i64 a0_0).wf = true → (Lit.int .i64 a0_1_0).wf = true → (Lit.int .i64 a0_1_1).wf = true → (Lit.int .i64 a0_2_0).wf = true → (Lit.int .i64 a0_2_1).wf = true → ∃ k, laws_FnExactEdgeOk.f k a0_0 a0_1_0 a0_1_1 a0_2_0 a0_2_1 = some true
end Go.Proofs.Ytafahdjaleeinaa.PFnExactEdgeOk
