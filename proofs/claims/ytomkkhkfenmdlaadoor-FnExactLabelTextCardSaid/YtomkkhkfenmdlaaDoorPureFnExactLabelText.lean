/- The plain law behind FnExactLabelText: both functions give the same text of every number. -/
import Derived.Test.YtomkkhkfenmdlaaDoorQFnExactLabelTextOpen
namespace Go.Proofs.YtomkkhkfenmdlaaDoor.Pure
open Go.RowKit Go.Proofs.YtomkkhkfenmdlaaDoor.QFnExactLabelText Go.Proofs.YtomkkhkfenmdlaaDoorW.PrintWords Go.Proofs.YtomkkhkfenmdlaaDoorW.PrintLast
set_option linter.unusedSimpArgs false
set_option linter.unusedVariables false

theorem lab8 {a : Int} (h : 0 ≤ a ∧ a ≤ 7) : a = 0 ∨ a = 1 ∨ a = 2 ∨ a = 3 ∨ a = 4 ∨ a = 5 ∨ a = 6 ∨ a = 7 := by omega

def isL (a : Int) : Bool := decide (0 ≤ a ∧ a ≤ 7)
def U (a b : Int) : Bool := isL a && (isL b && (a.toNat &&& b.toNat == a.toNat))
def Jn (a b : Int) : Int := if isL a && isL b then ((a.toNat ||| b.toNat : Nat) : Int) else 0
def Mt (a b : Int) : Int := if isL a && isL b then ((a.toNat &&& b.toNat : Nat) : Int) else 0
def Hs (a i : Int) : Bool := isL a && (decide (0 ≤ i ∧ i < 3) && a.toNat.testBit i.toNat)
def Mn (a : Int) : Int := if isL a then ((Hs a 0).toNat + (Hs a 1).toNat + (Hs a 2).toNat : Nat) else 0
def Al (a : Int) : List Int := [0, 1, 2, 3, 4, 5, 6, 7].filter fun b => U b a
theorem fin8 {a : Int} (h : isL a = true) : ∃ x : Fin 8, a = (x.val : Int) := by
  simp [isL] at h
  obtain ⟨n, rfl⟩ := Int.eq_ofNat_of_zero_le h.1
  exact ⟨⟨n, by omega⟩, rfl⟩

theorem iIs (a : Int) : impl_LabelOk.f a = some (isL a) := by
  unfold impl_LabelOk.f isL
  by_cases h : 0 ≤ a
  · rw [if_pos h]; simp [h]
  · rw [if_neg h]; simp [h]

theorem sTx8 : ∀ a : Fin 8, spec_LabelText.f 10 (a.val : Int) = some (tx a.val) := by decide +kernel
theorem sTx (k : Nat) (hk : 10 ≤ k) (a : Int) : spec_LabelText.f k a = impl_LabelText.f a := by
  unfold impl_LabelText.f
  by_cases h : 0 ≤ a ∧ a ≤ 7
  · rw [if_pos h]
    obtain ⟨x, rfl⟩ := fin8 (show isL a = true by simp [isL]; omega)
    exact at_rounds (g := fun k => spec_LabelText.f k (x.val : Int)) (fun k => spec_LabelText.mono _ k) hk (sTx8 x)
  · rw [if_neg h]
    unfold spec_LabelText.f spec_LabelOk.f
    by_cases h0 : a ≥ 0
    · rw [if_pos h0, decide_eq_false (by omega)]; rfl
    · rw [if_neg h0]; rfl

theorem FnExactLabelText : laws_FnExactLabelText.Pure := by
  intro a _
  refine ⟨10, ?_⟩
  unfold laws_FnExactLabelText.f
  rw [sTx 10 (by decide)]
  unfold impl_LabelText.f
  by_cases h : 0 ≤ a ∧ a ≤ 7
  · rw [if_pos h]; simp
  · rw [if_neg h]; simp

end Go.Proofs.YtomkkhkfenmdlaaDoor.Pure
