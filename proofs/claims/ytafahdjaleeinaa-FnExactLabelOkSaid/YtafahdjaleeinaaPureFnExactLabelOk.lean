/- The plain law behind FnExactLabelOk: both functions ask whether the number is from 0 to 7, at every number. -/
import Derived.Test.YtafahdjaleeinaaPFnExactLabelOkx1
namespace Go.Proofs.Ytafahdjaleeinaa.Pure
open Go.RowKit Go.Proofs.Ytafahdjaleeinaa.PFnExactLabelOk Go.Proofs.YtafahdjaleeinaaW.PrintWords Go.Proofs.YtafahdjaleeinaaW.PrintLast

theorem sOk (a : Int) : spec_LabelOk.f a = some (decide (0 ≤ a ∧ a ≤ 7)) := by
  unfold spec_LabelOk.f
  by_cases h : a ≥ 0
  · rw [if_pos h]; simp [h]
  · rw [if_neg h]; simp [h]

theorem iOk (a : Int) : impl_LabelOk.f a = some (decide (0 ≤ a ∧ a ≤ 7)) := by
  unfold impl_LabelOk.f
  by_cases h : 0 ≤ a
  · rw [if_pos h]; simp [h]
  · rw [if_neg h]; simp [h]

theorem FnExactLabelOk : laws_FnExactLabelOk.Pure := by
  intro a _
  unfold laws_FnExactLabelOk.f
  rw [sOk, iOk]
  simp

end Go.Proofs.Ytafahdjaleeinaa.Pure
