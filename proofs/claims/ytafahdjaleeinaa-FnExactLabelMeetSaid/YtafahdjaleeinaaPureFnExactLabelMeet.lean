/- The plain law behind FnExactLabelMeet: at every two numbers both functions answer alike; of two labels all cases are reckoned. -/
import Derived.Test.YtafahdjaleeinaaPFnExactLabelMeetx1
namespace Go.Proofs.Ytafahdjaleeinaa.Pure
open Go.RowKit Go.Proofs.Ytafahdjaleeinaa.PFnExactLabelMeet Go.Proofs.YtafahdjaleeinaaW.PrintWords Go.Proofs.YtafahdjaleeinaaW.PrintLast

theorem lab8 {a : Int} (h : 0 ≤ a ∧ a ≤ 7) : a = 0 ∨ a = 1 ∨ a = 2 ∨ a = 3 ∨ a = 4 ∨ a = 5 ∨ a = 6 ∨ a = 7 := by omega

theorem sOk (a : Int) : spec_LabelOk.f a = some (decide (0 ≤ a ∧ a ≤ 7)) := by
  unfold spec_LabelOk.f
  by_cases h : a ≥ 0
  · rw [if_pos h]; simp [h]
  · rw [if_neg h]; simp [h]

theorem iOk (a : Int) : impl_LabelOk.f a = some (decide (0 ≤ a ∧ a ≤ 7)) := by
  unfold impl_LabelOk.f
  by_cases h : 0 ≤ a
  · rw [if_pos h]; simp [h]
  · rw [if_neg h]; simp [h]

theorem FnExactLabelMeet : laws_FnExactLabelMeet.Pure := by
  intro a b _ _
  refine ⟨10, ?_⟩
  by_cases ha : 0 ≤ a ∧ a ≤ 7
  · by_cases hb : 0 ≤ b ∧ b ≤ 7
    · rcases lab8 ha with rfl | rfl | rfl | rfl | rfl | rfl | rfl | rfl <;> rcases lab8 hb with rfl | rfl | rfl | rfl | rfl | rfl | rfl | rfl <;> decide +kernel
    · simp [laws_FnExactLabelMeet.f, spec_LabelMeet.f, impl_LabelMeet.f, sOk, iOk, ha, hb]
  · simp [laws_FnExactLabelMeet.f, spec_LabelMeet.f, impl_LabelMeet.f, sOk, iOk, ha]

end Go.Proofs.Ytafahdjaleeinaa.Pure
