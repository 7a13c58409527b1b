/- The plain law behind FnExactPackNum: at every number both functions make the same bytes. -/
import Derived.Test.YtafahdjaleeinaaPFnExactPackNumx1
namespace Go.Proofs.Ytafahdjaleeinaa.Pure
open Go.RowKit Go.Proofs.Ytafahdjaleeinaa.PFnExactPackNum Go.Proofs.YtafahdjaleeinaaW.PrintWords Go.Proofs.YtafahdjaleeinaaW.PrintLast

theorem FnExactPackNum : laws_FnExactPackNum.Pure := by
  intro n _
  refine ⟨5, ?_⟩
  unfold laws_FnExactPackNum.f spec_PackNum.f impl_PackNum.f impl_appendNum.f
  by_cases h0 : n < 0
  · rw [if_pos h0, if_pos h0]
    simp [spec_PackNum.j0, impl_appendNum.j0, strOfNums]
  · rw [if_neg h0, if_neg h0]
    by_cases h1 : n > 16383
    · simp [spec_PackNum.j0, impl_appendNum.j0, strOfNums, h1]
    · by_cases h2 : n < 128
      · simp [spec_PackNum.j0, impl_appendNum.j0, h1, h2]
      · simp [spec_PackNum.j0, impl_appendNum.j0, h1, h2]

end Go.Proofs.Ytafahdjaleeinaa.Pure
