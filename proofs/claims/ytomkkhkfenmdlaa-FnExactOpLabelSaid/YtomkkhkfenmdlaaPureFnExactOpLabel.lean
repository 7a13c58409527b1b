/- The plain law behind FnExactOpLabel: at every operation both functions tell the same label. -/
import Derived.Test.YtomkkhkfenmdlaaPFnExactOpLabelOpen
namespace Go.Proofs.Ytomkkhkfenmdlaa.Pure
open Go.RowKit Go.Proofs.Ytomkkhkfenmdlaa.PFnExactOpLabel Go.Proofs.YtomkkhkfenmdlaaW.PrintWords Go.Proofs.YtomkkhkfenmdlaaW.PrintLast
set_option linter.unusedSimpArgs false
set_option linter.unusedVariables false

theorem w64 {x : Int} (h : -9223372036854775808 ≤ x ∧ x ≤ 9223372036854775807) : wrap64 x = x := by unfold wrap64; omega
theorem rdB {b : List Int} (hb : ∀ x ∈ b, 0 ≤ x ∧ x ≤ 255) (i : Int) : 0 ≤ rd b i ∧ rd b i ≤ 255 := by
  unfold rd
  rw [List.getD_eq_getElem?_getD]
  cases h : b[i.toNat]? with
  | none => simp
  | some v => exact hb v (List.mem_of_getElem? h)
theorem u8B {l : List Int} (h : ∀ x ∈ l, (Lit.int .u8 x).wf = true) : ∀ x ∈ l, 0 ≤ x ∧ x ≤ 255 := fun x hx => by
  have := h x hx
  simp [Lit.wf, IntKind.min, IntKind.max, IntKind.signed, IntKind.bits] at this
  omega

theorem lab8 {a : Int} (h : 0 ≤ a ∧ a ≤ 7) : a = 0 ∨ a = 1 ∨ a = 2 ∨ a = 3 ∨ a = 4 ∨ a = 5 ∨ a = 6 ∨ a = 7 := by omega

def isL (a : Int) : Bool := decide (0 ≤ a ∧ a ≤ 7)
def U (a b : Int) : Bool := isL a && (isL b && (a.toNat &&& b.toNat == a.toNat))
def Jn (a b : Int) : Int := if isL a && isL b then ((a.toNat ||| b.toNat : Nat) : Int) else 0
def Mt (a b : Int) : Int := if isL a && isL b then ((a.toNat &&& b.toNat : Nat) : Int) else 0
def Hs (a i : Int) : Bool := isL a && (decide (0 ≤ i ∧ i < 3) && a.toNat.testBit i.toNat)
def Mn (a : Int) : Int := if isL a then ((Hs a 0).toNat + (Hs a 1).toNat + (Hs a 2).toNat : Nat) else 0
def Al (a : Int) : List Int := [0, 1, 2, 3, 4, 5, 6, 7].filter fun b => U b a
theorem fin8 {a : Int} (h : isL a = true) : ∃ x : Fin 8, a = (x.val : Int) := by
  simp [isL] at h
  obtain ⟨n, rfl⟩ := Int.eq_ofNat_of_zero_le h.1
  exact ⟨⟨n, by omega⟩, rfl⟩

theorem iIs (a : Int) : impl_LabelOk.f a = some (isL a) := by
  unfold impl_LabelOk.f isL
  by_cases h : 0 ≤ a
  · rw [if_pos h]; simp [h]
  · rw [if_neg h]; simp [h]

def nOk (a b : Int) : Bool := isL a && decide (0 ≤ b ∧ b ≤ 40)
theorem nOk_iff {a b : Int} : nOk a b = true ↔ (0 ≤ a ∧ a ≤ 7) ∧ (0 ≤ b ∧ b ≤ 40) := by simp [nOk, isL]

theorem iN (a b : Int) : impl_NodeOk.f a b = some (nOk a b) := by
  unfold impl_NodeOk.f
  rw [iIs]
  cases h : isL a
  · simp [nOk, h]
  · by_cases hb : 0 ≤ b
    · simp [nOk, h, hb]
    · simp [nOk, h, hb]

theorem iC (a b : Int) : impl_NodeCode.f a b = some (if nOk a b = true then 64 * a + b else -1) := by
  unfold impl_NodeCode.f
  rw [iN]
  by_cases h : nOk a b = true
  · have h' := nOk_iff.1 h
    rw [if_pos h, w64 (x := 64 * a) (by omega), w64 (x := 64 * a + b) (by omega)]; simp [h]
  · rw [if_neg h]; simp [h]

theorem iU8 : ∀ a b : Fin 8, impl_LabelUnder.f (a.val : Int) (b.val : Int) = some (U a.val b.val) := by decide +kernel
theorem iU (a b : Int) : impl_LabelUnder.f a b = some (U a b) := by
  by_cases ha : isL a = true
  · by_cases hb : isL b = true
    · obtain ⟨x, rfl⟩ := fin8 ha
      obtain ⟨y, rfl⟩ := fin8 hb
      exact iU8 x y
    · simp [impl_LabelUnder.f, iIs, U, ha, hb]
  · simp [impl_LabelUnder.f, iIs, U, ha]

def EOk (l a b c d : Int) : Bool := isL l && (nOk a b && (nOk c d && (decide (64 * a + b < 64 * c + d) && (U a l && U c l))))
theorem nOk_l {a b : Int} (h : nOk a b = true) : isL a = true := by simp [nOk] at h; exact h.1

theorem iE (l a b c d : Int) : impl_EdgeOk.f l a b c d = some (EOk l a b c d) := by
  unfold impl_EdgeOk.f EOk
  simp only [iIs, iN, iC, iU, Option.bind_some]
  by_cases hl : isL l = true
  · by_cases ha : nOk a b = true
    · by_cases hc : nOk c d = true
      · by_cases h : 64 * a + b < 64 * c + d
        · cases h1 : U a l <;> simp [hl, ha, hc, h]
        · simp [hl, ha, hc, h]
      · simp [hl, ha, hc]
    · simp [hl, ha]
  · simp [hl]

theorem sIs (a : Int) : spec_LabelOk.f a = some (isL a) := by
  unfold spec_LabelOk.f isL
  by_cases h : a ≥ 0
  · rw [if_pos h]; simp [h]
  · rw [if_neg h]; simp [h]

theorem sN (a b : Int) : spec_NodeOk.f a b = some (nOk a b) := by
  unfold spec_NodeOk.f
  rw [sIs]
  cases h : isL a
  · simp [nOk, h]
  · by_cases hb : 0 ≤ b
    · simp [nOk, h, hb]
    · simp [nOk, h, hb]

theorem sC2 {a b : Int} (h : nOk a b = true) : spec_l2Code.f a b = some (64 * a + b) := by
  have h' := nOk_iff.1 h
  unfold spec_l2Code.f
  rw [w64 (x := a * 64) (by omega), w64 (x := a * 64 + b) (by omega), Int.mul_comm]

theorem l1U8 : ∀ a b : Fin 8, spec_l1Under.f 10 (a.val : Int) (b.val : Int) = some (U a.val b.val) := by decide +kernel
theorem l1U (k : Nat) (hk : 10 ≤ k) {a b : Int} (ha : isL a = true) (hb : isL b = true) : spec_l1Under.f k a b = some (U a b) := by
  obtain ⟨x, rfl⟩ := fin8 ha
  obtain ⟨y, rfl⟩ := fin8 hb
  exact at_rounds (g := fun k => spec_l1Under.f k (x.val : Int) (y.val : Int)) (fun k => spec_l1Under.mono _ _ k) hk (l1U8 x y)

theorem sE (k : Nat) (hk : 10 ≤ k) (l a b c d : Int) : spec_EdgeOk.f k l a b c d = some (EOk l a b c d) := by
  unfold spec_EdgeOk.f EOk
  simp only [sIs, sN, Option.bind_some]
  by_cases hl : isL l = true
  · by_cases ha : nOk a b = true
    · by_cases hc : nOk c d = true
      · simp only [sC2 ha, sC2 hc, l1U k hk (nOk_l ha) hl, l1U k hk (nOk_l hc) hl, Option.bind_some]
        by_cases h : 64 * a + b < 64 * c + d
        · cases h1 : U a l <;> simp [hl, ha, hc, h]
        · simp [hl, ha, hc, h]
      · simp [hl, ha, hc]
    · simp [hl, ha]
  · simp [hl]

theorem sEk {k : Nat} (l a b c d : Int) : spec_EdgeOk.f (k + 10) l a b c d = some (EOk l a b c d) := sE (k + 10) (by omega) l a b c d
theorem FnExactOpLabel : laws_FnExactOpLabel.Pure := by
  intro t a b l c d e f _ _ _ _ _ _ _ _
  refine ⟨20, ?_⟩
  have h : spec_OpLabel.f 20 t a b l c d e f = impl_OpLabel.f 20 t a b l c d e f := by
    unfold spec_OpLabel.f impl_OpLabel.f
    simp only [spec_OpLabel.j0, spec_OpLabel.j1, impl_OpLabel.j0, impl_OpLabel.j1, sN, iN, sE 18 (by decide), iE]
  have hv : ∃ r, impl_OpLabel.f 20 t a b l c d e f = some r := by
    unfold impl_OpLabel.f
    simp only [impl_OpLabel.j0, impl_OpLabel.j1, iN, iE, Option.bind_some]
    repeat' split
    all_goals exact ⟨_, rfl⟩
  obtain ⟨r, hr⟩ := hv
  unfold laws_FnExactOpLabel.f laws_toOp.f laws_toEdge.f laws_toNode.f
  simp only [Option.bind_some]
  rw [h, hr]
  simp

end Go.Proofs.Ytomkkhkfenmdlaa.Pure
