/- The plain law behind FnExactNodeCode: at every node both functions tell the same number. -/
import Derived.Test.YtafahdjaleeinaaPFnExactNodeCodeOpen
namespace Go.Proofs.Ytafahdjaleeinaa.Pure
open Go.RowKit Go.Proofs.Ytafahdjaleeinaa.PFnExactNodeCode Go.Proofs.YtafahdjaleeinaaW.PrintWords Go.Proofs.YtafahdjaleeinaaW.PrintLast

theorem sOk (a : Int) : spec_LabelOk.f a = some (decide (0 ≤ a ∧ a ≤ 7)) := by
  unfold spec_LabelOk.f
  by_cases h : a ≥ 0
  · rw [if_pos h]; simp [h]
  · rw [if_neg h]; simp [h]

theorem iOk (a : Int) : impl_LabelOk.f a = some (decide (0 ≤ a ∧ a ≤ 7)) := by
  unfold impl_LabelOk.f
  by_cases h : 0 ≤ a
  · rw [if_pos h]; simp [h]
  · rw [if_neg h]; simp [h]

theorem sNode (a b : Int) : spec_NodeOk.f a b = some (decide ((0 ≤ a ∧ a ≤ 7) ∧ (0 ≤ b ∧ b ≤ 40))) := by
  unfold spec_NodeOk.f
  rw [sOk]
  by_cases ha : 0 ≤ a ∧ a ≤ 7
  · by_cases hb : 0 ≤ b
    · simp [ha, hb]
    · simp [ha, hb]
  · simp [ha]
theorem iNode (a b : Int) : impl_NodeOk.f a b = some (decide ((0 ≤ a ∧ a ≤ 7) ∧ (0 ≤ b ∧ b ≤ 40))) := by
  unfold impl_NodeOk.f
  rw [iOk]
  by_cases ha : 0 ≤ a ∧ a ≤ 7
  · by_cases hb : 0 ≤ b
    · simp [ha, hb]
    · simp [ha, hb]
  · simp [ha]

theorem w64 {x : Int} (h : -9223372036854775808 ≤ x ∧ x ≤ 9223372036854775807) : wrap64 x = x := by unfold wrap64; omega
theorem rdB {b : List Int} (hb : ∀ x ∈ b, 0 ≤ x ∧ x ≤ 255) (i : Int) : 0 ≤ rd b i ∧ rd b i ≤ 255 := by
  unfold rd
  rw [List.getD_eq_getElem?_getD]
  cases h : b[i.toNat]? with
  | none => simp
  | some v => exact hb v (List.mem_of_getElem? h)
theorem u8B {l : List Int} (h : ∀ x ∈ l, (Lit.int .u8 x).wf = true) : ∀ x ∈ l, 0 ≤ x ∧ x ≤ 255 := fun x hx => by
  have := h x hx
  simp [Lit.wf, IntKind.min, IntKind.max, IntKind.signed, IntKind.bits] at this
  omega

theorem sL2 {a b : Int} (h : (0 ≤ a ∧ a ≤ 7) ∧ (0 ≤ b ∧ b ≤ 40)) : spec_l2Code.f a b = some (64 * a + b) := by
  unfold spec_l2Code.f
  rw [w64 (x := a * 64) (by omega), w64 (x := a * 64 + b) (by omega), Int.mul_comm]

theorem sCode (a b : Int) : spec_NodeCode.f a b = some (if (0 ≤ a ∧ a ≤ 7) ∧ (0 ≤ b ∧ b ≤ 40) then 64 * a + b else -1) := by
  unfold spec_NodeCode.f
  rw [sNode]
  by_cases h : (0 ≤ a ∧ a ≤ 7) ∧ (0 ≤ b ∧ b ≤ 40)
  · rw [if_pos h, sL2 h]; simp [h]
  · rw [if_neg h]; simp [h]

theorem iCode (a b : Int) : impl_NodeCode.f a b = some (if (0 ≤ a ∧ a ≤ 7) ∧ (0 ≤ b ∧ b ≤ 40) then 64 * a + b else -1) := by
  unfold impl_NodeCode.f
  rw [iNode]
  by_cases h : (0 ≤ a ∧ a ≤ 7) ∧ (0 ≤ b ∧ b ≤ 40)
  · rw [if_pos h, w64 (x := 64 * a) (by omega), w64 (x := 64 * a + b) (by omega)]; simp [h]
  · rw [if_neg h]; simp [h]

theorem FnExactNodeCode : laws_FnExactNodeCode.Pure := by
  intro a b _ _
  unfold laws_FnExactNodeCode.f laws_toNode.f
  simp only [Option.bind_some, sCode, iCode]
  simp

end Go.Proofs.Ytafahdjaleeinaa.Pure
