/- The plain law behind FnExactLabelHas: at every two numbers both functions answer alike; of labels and letters all cases are reckoned. -/
import Derived.Test.YtafahdjaleeinaaPFnExactLabelHasx1
namespace Go.Proofs.Ytafahdjaleeinaa.Pure
open Go.RowKit Go.Proofs.Ytafahdjaleeinaa.PFnExactLabelHas Go.Proofs.YtafahdjaleeinaaW.PrintWords Go.Proofs.YtafahdjaleeinaaW.PrintLast

theorem lab8 {a : Int} (h : 0 ≤ a ∧ a ≤ 7) : a = 0 ∨ a = 1 ∨ a = 2 ∨ a = 3 ∨ a = 4 ∨ a = 5 ∨ a = 6 ∨ a = 7 := by omega

theorem sOk (a : Int) : spec_LabelOk.f a = some (decide (0 ≤ a ∧ a ≤ 7)) := by
  unfold spec_LabelOk.f
  by_cases h : a ≥ 0
  · rw [if_pos h]; simp [h]
  · rw [if_neg h]; simp [h]

theorem iOk (a : Int) : impl_LabelOk.f a = some (decide (0 ≤ a ∧ a ≤ 7)) := by
  unfold impl_LabelOk.f
  by_cases h : 0 ≤ a
  · rw [if_pos h]; simp [h]
  · rw [if_neg h]; simp [h]

theorem let3 {a : Int} (h0 : 0 ≤ a) (h : a < 3) : a = 0 ∨ a = 1 ∨ a = 2 := by omega
theorem FnExactLabelHas : laws_FnExactLabelHas.Pure := by
  intro a i _ _
  refine ⟨10, ?_⟩
  by_cases ha : 0 ≤ a ∧ a ≤ 7
  · by_cases h0 : 0 ≤ i
    · by_cases h3 : i < 3
      · rcases lab8 ha with rfl | rfl | rfl | rfl | rfl | rfl | rfl | rfl <;> rcases let3 h0 h3 with rfl | rfl | rfl <;> decide +kernel
      · simp [laws_FnExactLabelHas.f, spec_LabelHas.f, impl_LabelHas.f, sOk, iOk, ha, h0, h3]
    · simp [laws_FnExactLabelHas.f, spec_LabelHas.f, impl_LabelHas.f, sOk, iOk, ha, h0]
  · simp [laws_FnExactLabelHas.f, spec_LabelHas.f, impl_LabelHas.f, sOk, iOk, ha]

end Go.Proofs.Ytafahdjaleeinaa.Pure
