/- The plain law behind FnExactNodeOk: at every node both functions ask the same. -/
import Derived.Test.YtafahdjaleeinaaPFnExactNodeOkOpen
namespace Go.Proofs.Ytafahdjaleeinaa.Pure
open Go.RowKit Go.Proofs.Ytafahdjaleeinaa.PFnExactNodeOk Go.Proofs.YtafahdjaleeinaaW.PrintWords Go.Proofs.YtafahdjaleeinaaW.PrintLast

theorem sOk (a : Int) : spec_LabelOk.f a = some (decide (0 ≤ a ∧ a ≤ 7)) := by
  unfold spec_LabelOk.f
  by_cases h : a ≥ 0
  · rw [if_pos h]; simp [h]
  · rw [if_neg h]; simp [h]

theorem iOk (a : Int) : impl_LabelOk.f a = some (decide (0 ≤ a ∧ a ≤ 7)) := by
  unfold impl_LabelOk.f
  by_cases h : 0 ≤ a
  · rw [if_pos h]; simp [h]
  · rw [if_neg h]; simp [h]

theorem sNode (a b : Int) : spec_NodeOk.f a b = some (decide ((0 ≤ a ∧ a ≤ 7) ∧ (0 ≤ b ∧ b ≤ 40))) := by
  unfold spec_NodeOk.f
  rw [sOk]
  by_cases ha : 0 ≤ a ∧ a ≤ 7
  · by_cases hb : 0 ≤ b
    · simp [ha, hb]
    · simp [ha, hb]
  · simp [ha]
theorem iNode (a b : Int) : impl_NodeOk.f a b = some (decide ((0 ≤ a ∧ a ≤ 7) ∧ (0 ≤ b ∧ b ≤ 40))) := by
  unfold impl_NodeOk.f
  rw [iOk]
  by_cases ha : 0 ≤ a ∧ a ≤ 7
  · by_cases hb : 0 ≤ b
    · simp [ha, hb]
    · simp [ha, hb]
  · simp [ha]

theorem FnExactNodeOk : laws_FnExactNodeOk.Pure := by
  intro a b _ _
  unfold laws_FnExactNodeOk.f laws_toNode.f
  simp only [Option.bind_some, sNode, iNode]
  simp

end Go.Proofs.Ytafahdjaleeinaa.Pure
