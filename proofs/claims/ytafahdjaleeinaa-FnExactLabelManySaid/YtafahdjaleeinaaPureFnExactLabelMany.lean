/- The plain law behind FnExactLabelMany: at every number both functions answer alike; of labels all cases are reckoned. -/
import Derived.Test.YtafahdjaleeinaaPFnExactLabelManyx1
namespace Go.Proofs.Ytafahdjaleeinaa.Pure
open Go.RowKit Go.Proofs.Ytafahdjaleeinaa.PFnExactLabelMany Go.Proofs.YtafahdjaleeinaaW.PrintWords Go.Proofs.YtafahdjaleeinaaW.PrintLast

theorem lab8 {a : Int} (h : 0 ≤ a ∧ a ≤ 7) : a = 0 ∨ a = 1 ∨ a = 2 ∨ a = 3 ∨ a = 4 ∨ a = 5 ∨ a = 6 ∨ a = 7 := by omega

theorem sOk (a : Int) : spec_LabelOk.f a = some (decide (0 ≤ a ∧ a ≤ 7)) := by
  unfold spec_LabelOk.f
  by_cases h : a ≥ 0
  · rw [if_pos h]; simp [h]
  · rw [if_neg h]; simp [h]

theorem iOk (a : Int) : impl_LabelOk.f a = some (decide (0 ≤ a ∧ a ≤ 7)) := by
  unfold impl_LabelOk.f
  by_cases h : 0 ≤ a
  · rw [if_pos h]; simp [h]
  · rw [if_neg h]; simp [h]

theorem FnExactLabelMany : laws_FnExactLabelMany.Pure := by
  intro a _
  refine ⟨10, ?_⟩
  by_cases ha : 0 ≤ a ∧ a ≤ 7
  · rcases lab8 ha with rfl | rfl | rfl | rfl | rfl | rfl | rfl | rfl <;> decide +kernel
  · have hs : ∀ k i, spec_LabelHas.f k a i = some false := fun k i => by simp [spec_LabelHas.f, sOk, ha]
    have hl : ∀ k x y, spec_LabelMany.l0 (k + 1) a x y = if y < 3 then spec_LabelMany.l0 k a x (wrap64 (y + 1)) else some x := fun k x y => by
      simp [spec_LabelMany.l0, hs]
    have h1 : spec_LabelMany.f 10 a = some 0 := by
      unfold spec_LabelMany.f
      rw [hl, if_pos (by decide +kernel), hl, if_pos (by decide +kernel), hl, if_pos (by decide +kernel), hl, if_neg (by decide +kernel)]
    have h2 : impl_LabelMany.f 10 a = some 0 := by simp [impl_LabelMany.f, iOk, ha]
    unfold laws_FnExactLabelMany.f
    rw [h1, h2]; rfl

end Go.Proofs.Ytafahdjaleeinaa.Pure
