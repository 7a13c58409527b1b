/- What the row of FnExactOpLabel opens: the law's statement over plain data (Pure), and how each parameter's reading gives that data. -/
import Derived.Test.YtomkkhkfenmdlaaPFnExactOpLabelx7
import Derived.ProofKit
import Derived.WalkKit
import Derived.Deep.Slices
import Derived.Deep.Strs
import Derived.Lib.SmallJoins
import Derived.ChangeSame
import Derived.Below
namespace Go.Proofs.Ytomkkhkfenmdlaa.PFnExactOpLabel
open Go.RowKit Go.ChangeShapes Go.WideShapes Go.Proofs.YtomkkhkfenmdlaaW.PrintWords Go.Proofs.YtomkkhkfenmdlaaW.PrintLast
set_option linter.unusedVariables false
theorem lst8 {α : Type} {l : List α} (h : l.length = 8) : ∃ c0 c1 c2 c3 c4 c5 c6 c7, l = [c0, c1, c2, c3, c4, c5, c6, c7] := by
  match l, h with
  | [c0, c1, c2, c3, c4, c5, c6, c7], _ => exact ⟨c0, c1, c2, c3, c4, c5, c6, c7, rfl⟩
theorem arr8 {α : Type} {a : Array α} (h : a.size = 8) : ∃ c0 c1 c2 c3 c4 c5 c6 c7, a = #[c0, c1, c2, c3, c4, c5, c6, c7] := by
  obtain ⟨l⟩ := a
  obtain ⟨c0, c1, c2, c3, c4, c5, c6, c7, rfl⟩ := lst8 (l := l) (by simpa using h)
  exact ⟨c0, c1, c2, c3, c4, c5, c6, c7, rfl⟩
section
variable {H : Type} {enc : TypeId × Value → H} {w : World} {base : Nat} {spare : Nat → Bool} {held : Bool}
end
/-- THE ONE PURE STATEMENT of laws_FnExactOpLabel. -/
def laws_FnExactOpLabel.Pure : Prop := ∀ (a0_0 : Int) (a0_1_0 : Int) (a0_1_1 : Int) (a0_2_0 : Int) (a0_2_1_0 : Int) (a0_2_1_1 : Int) (a0_2_2_0 : Int) (a0_2_2_1 : Int), (Lit.int .i64 a0_0).wf = true → (Lit.int .i64 a0_1_0).wf = true → (Lit.int .i64 a0_1_1).wf = true → (Lit.int .i64 a0_2_0).wf = true → (Lit.int .i64 a0_2_1_0).wf = true → (Lit.int .i64 a0_2_1_1).wf = true → (Lit.int .i64 a0_2_2_0).wf = true → (Lit.int .i64 a0_2_2_1).wf = true → ∃ k, laws_FnExactOpLabel.f k a0_0 a0_1_0 a0_1_1 a0_2_0 a0_2_1_0 a0_2_1_1 a0_2_2_0 a0_2_2_1 = some true
end Go.Proofs.Ytomkkhkfenmdlaa.PFnExactOpLabel
