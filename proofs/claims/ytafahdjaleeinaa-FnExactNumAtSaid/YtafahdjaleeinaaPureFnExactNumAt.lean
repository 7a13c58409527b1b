/- The plain law behind FnExactNumAt: at every text and every place both functions answer alike. -/
import Derived.Test.YtafahdjaleeinaaPFnExactNumAtx1
namespace Go.Proofs.Ytafahdjaleeinaa.Pure
open Go.RowKit Go.Proofs.Ytafahdjaleeinaa.PFnExactNumAt Go.Proofs.YtafahdjaleeinaaW.PrintWords Go.Proofs.YtafahdjaleeinaaW.PrintLast

theorem btW (s : ByteArray) (i : Int) : 0 ≤ bt s i ∧ bt s i < 256 := by
  unfold bt
  have h : ∀ u : UInt8, 0 ≤ (u.toNat : Int) ∧ (u.toNat : Int) < 256 := fun u => by have := u.toNat_lt; omega
  first | exact h _ | (split <;> first | exact h _ | omega)
theorem FnExactNumAt : laws_FnExactNumAt.Pure := by
  intro s i hs hi
  refine ⟨5, ?_⟩
  unfold laws_FnExactNumAt.f
  by_cases hb : (s.size : Int) > 1048576
  · rw [if_pos hb]
  rw [if_neg hb]
  have e : spec_NumAt.f 5 s i = impl_NumAt.f 5 s i := by
    unfold spec_NumAt.f impl_NumAt.f
    by_cases h0 : i < 0
    · rw [if_pos h0, if_pos h0]; simp [spec_NumAt.j0, impl_NumAt.j0]
    · rw [if_neg h0, if_neg h0]
      by_cases h1 : i ≥ (s.size : Int)
      · simp [spec_NumAt.j0, impl_NumAt.j0, h1]
      · have w1 : wrap64 (i + 1) = i + 1 := by unfold wrap64; omega
        have w2 : wrap64 (i + 2) = i + 2 := by unfold wrap64; omega
        have wb : ∀ j, wrap64 (bt s j) = bt s j := fun j => by have := btW s j; unfold wrap64; omega
        simp only [spec_NumAt.j0, impl_NumAt.j0, impl_NumAt.j1, w1, w2, wb, decide_eq_true_eq]
        rw [if_neg h1, if_neg h1]
        by_cases h2 : 0 ≤ i
        · rw [if_pos h2, if_pos h2]
          by_cases h3 : i < (s.size : Int)
          · rw [if_pos h3, if_pos h3]
            by_cases h4 : bt s i < 128
            · rw [if_pos h4, if_pos h4]
            · rw [if_neg h4, if_neg h4]
              by_cases h5 : i + 1 ≥ (s.size : Int)
              · rw [if_pos h5]
                by_cases h6 : bt s i = 128
                · rw [if_pos h6]; rfl
                · rw [if_neg h6, if_pos h5]
              · rw [if_neg h5]
                by_cases h6 : bt s i = 128
                · rw [if_pos h6, if_pos h6]; rfl
                · rw [if_neg h6, if_neg h6, if_neg h5]
                  have g1 : 0 ≤ i + 1 := by omega
                  have g2 : i + 1 < (s.size : Int) := by omega
                  simp only [g1, g2, if_true]
                  by_cases h7 : bt s (i + 1) > 127
                  · rw [if_pos h7, if_pos (show bt s (i + 1) ≥ 128 by omega)]
                  · rw [if_neg h7, if_neg (show ¬ bt s (i + 1) ≥ 128 by omega)]
          · exact absurd h3 (by omega)
        · exact absurd h2 (by omega)
  rw [e]
  have hv : ∃ r, impl_NumAt.f 5 s i = some r := by
    unfold impl_NumAt.f
    by_cases h0 : i < 0
    · rw [if_pos h0]; exact ⟨_, rfl⟩
    · rw [if_neg h0]
      by_cases h1 : i ≥ (s.size : Int)
      · simp [impl_NumAt.j0, h1]
      · have w1 : wrap64 (i + 1) = i + 1 := by unfold wrap64; omega
        simp only [impl_NumAt.j0, impl_NumAt.j1, w1, decide_eq_true_eq]
        rw [if_neg h1, if_pos (show 0 ≤ i by omega), if_pos (show i < (s.size : Int) by omega)]
        split
        · exact ⟨_, rfl⟩
        · split
          · exact ⟨_, rfl⟩
          · split
            · exact ⟨_, rfl⟩
            · rw [if_pos (show 0 ≤ i + 1 by omega), if_pos (show i + 1 < (s.size : Int) by omega)]
              split <;> exact ⟨_, rfl⟩
  obtain ⟨⟨x, y, z⟩, hr⟩ := hv
  rw [hr]; simp

end Go.Proofs.Ytafahdjaleeinaa.Pure
