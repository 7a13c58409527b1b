/- The plain law behind FnExactLabelAll: at every number both functions make the same list; what is written into one result stays out of the other. -/
import Derived.Test.YteilpkckaecomaaPFnExactLabelAllx2
namespace Go.Proofs.Yteilpkckaecomaa.Pure
open Go.RowKit Go.Proofs.Yteilpkckaecomaa.PFnExactLabelAll Go.Proofs.YteilpkckaecomaaW.PrintWords Go.Proofs.YteilpkckaecomaaW.PrintLast
set_option linter.unusedSimpArgs false
set_option linter.unusedVariables false

theorem lab8 {a : Int} (h : 0 ≤ a ∧ a ≤ 7) : a = 0 ∨ a = 1 ∨ a = 2 ∨ a = 3 ∨ a = 4 ∨ a = 5 ∨ a = 6 ∨ a = 7 := by omega

def isL (a : Int) : Bool := decide (0 ≤ a ∧ a ≤ 7)
def U (a b : Int) : Bool := isL a && (isL b && (a.toNat &&& b.toNat == a.toNat))
def Jn (a b : Int) : Int := if isL a && isL b then ((a.toNat ||| b.toNat : Nat) : Int) else 0
def Mt (a b : Int) : Int := if isL a && isL b then ((a.toNat &&& b.toNat : Nat) : Int) else 0
def Hs (a i : Int) : Bool := isL a && (decide (0 ≤ i ∧ i < 3) && a.toNat.testBit i.toNat)
def Mn (a : Int) : Int := if isL a then ((Hs a 0).toNat + (Hs a 1).toNat + (Hs a 2).toNat : Nat) else 0
def Al (a : Int) : List Int := [0, 1, 2, 3, 4, 5, 6, 7].filter fun b => U b a
theorem fin8 {a : Int} (h : isL a = true) : ∃ x : Fin 8, a = (x.val : Int) := by
  simp [isL] at h
  obtain ⟨n, rfl⟩ := Int.eq_ofNat_of_zero_le h.1
  exact ⟨⟨n, by omega⟩, rfl⟩

theorem iIs (a : Int) : impl_LabelOk.f a = some (isL a) := by
  unfold impl_LabelOk.f isL
  by_cases h : 0 ≤ a
  · rw [if_pos h]; simp [h]
  · rw [if_neg h]; simp [h]

theorem iU8 : ∀ a b : Fin 8, impl_LabelUnder.f (a.val : Int) (b.val : Int) = some (U a.val b.val) := by decide +kernel
theorem iU (a b : Int) : impl_LabelUnder.f a b = some (U a b) := by
  by_cases ha : isL a = true
  · by_cases hb : isL b = true
    · obtain ⟨x, rfl⟩ := fin8 ha
      obtain ⟨y, rfl⟩ := fin8 hb
      exact iU8 x y
    · simp [impl_LabelUnder.f, iIs, U, ha, hb]
  · simp [impl_LabelUnder.f, iIs, U, ha]

theorem iAl8 : ∀ a : Fin 8, impl_LabelAll.f 24 (a.val : Int) = some (Al a.val) := by decide +kernel
theorem iAl (k : Nat) (hk : 24 ≤ k) (a : Int) : impl_LabelAll.f k a = some (Al a) := by
  refine at_rounds (g := fun k => impl_LabelAll.f k a) (fun k => impl_LabelAll.mono _ k) hk ?_
  by_cases ha : isL a = true
  · obtain ⟨x, rfl⟩ := fin8 ha
    exact iAl8 x
  · have hl : ∀ k x y, 12 ≤ k → impl_LabelAll.l0 (k + 1) a x y = if y ≤ 7 then impl_LabelAll.l0 k a x (wrap64 (y + 1)) else some x := fun k x y hk => by
      simp [impl_LabelAll.l0, iU, U, ha]
    show impl_LabelAll.f 24 a = _
    unfold impl_LabelAll.f
    rw [hl 23 _ _ (by decide), if_pos (by decide +kernel), hl 22 _ _ (by decide), if_pos (by decide +kernel), hl 21 _ _ (by decide), if_pos (by decide +kernel), hl 20 _ _ (by decide), if_pos (by decide +kernel), hl 19 _ _ (by decide), if_pos (by decide +kernel), hl 18 _ _ (by decide), if_pos (by decide +kernel), hl 17 _ _ (by decide), if_pos (by decide +kernel), hl 16 _ _ (by decide), if_pos (by decide +kernel), hl 15 _ _ (by decide), if_neg (by decide +kernel)]
    simp [Al, U, ha]

theorem sIs (a : Int) : spec_LabelOk.f a = some (isL a) := by
  unfold spec_LabelOk.f isL
  by_cases h : a ≥ 0
  · rw [if_pos h]; simp [h]
  · rw [if_neg h]; simp [h]

theorem sU8 : ∀ a b : Fin 8, spec_LabelUnder.f 12 (a.val : Int) (b.val : Int) = some (U a.val b.val) := by decide +kernel
theorem sU (k : Nat) (hk : 12 ≤ k) (a b : Int) : spec_LabelUnder.f k a b = some (U a b) := by
  by_cases ha : isL a = true
  · by_cases hb : isL b = true
    · obtain ⟨x, rfl⟩ := fin8 ha
      obtain ⟨y, rfl⟩ := fin8 hb
      exact at_rounds (g := fun k => spec_LabelUnder.f k (x.val : Int) (y.val : Int)) (fun k => spec_LabelUnder.mono _ _ k) hk (sU8 x y)
    · simp [spec_LabelUnder.f, sIs, U, ha, hb]
  · simp [spec_LabelUnder.f, sIs, U, ha]

theorem sAl8 : ∀ a : Fin 8, spec_LabelAll.f 24 (a.val : Int) = some (Al a.val) := by decide +kernel
theorem sAl (k : Nat) (hk : 24 ≤ k) (a : Int) : spec_LabelAll.f k a = some (Al a) := by
  refine at_rounds (g := fun k => spec_LabelAll.f k a) (fun k => spec_LabelAll.mono _ k) hk ?_
  by_cases ha : isL a = true
  · obtain ⟨x, rfl⟩ := fin8 ha
    exact sAl8 x
  · have hl : ∀ k x y, 12 ≤ k → spec_LabelAll.l0 (k + 1) a x y = if y ≤ 7 then spec_LabelAll.l0 k a x (wrap64 (y + 1)) else some x := fun k x y hk => by
      simp [spec_LabelAll.l0, sU k hk, U, ha]
    show spec_LabelAll.f 24 a = _
    unfold spec_LabelAll.f
    rw [hl 23 _ _ (by decide), if_pos (by decide +kernel), hl 22 _ _ (by decide), if_pos (by decide +kernel), hl 21 _ _ (by decide), if_pos (by decide +kernel), hl 20 _ _ (by decide), if_pos (by decide +kernel), hl 19 _ _ (by decide), if_pos (by decide +kernel), hl 18 _ _ (by decide), if_pos (by decide +kernel), hl 17 _ _ (by decide), if_pos (by decide +kernel), hl 16 _ _ (by decide), if_pos (by decide +kernel), hl 15 _ _ (by decide), if_neg (by decide +kernel)]
    simp [Al, U, ha]

theorem exact8 : ∀ a : Fin 8, laws_FnExactLabelAll.f 40 (a.val : Int) = some true := by decide +kernel
theorem FnExactLabelAll : laws_FnExactLabelAll.Pure := by
  intro a _
  refine ⟨40, ?_⟩
  by_cases ha : isL a = true
  · obtain ⟨x, rfl⟩ := fin8 ha
    exact exact8 x
  · have e : Al a = [] := by simp [Al, U, ha]
    unfold laws_FnExactLabelAll.f
    simp only [iAl 40 (by decide), sAl 40 (by decide), e, Option.bind_some]
    decide +kernel

end Go.Proofs.Yteilpkckaecomaa.Pure
