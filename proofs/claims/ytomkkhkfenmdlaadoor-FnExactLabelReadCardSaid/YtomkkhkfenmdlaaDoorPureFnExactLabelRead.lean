/- The plain law behind FnExactLabelRead: both functions read the same of every text. -/
import Derived.Test.YtomkkhkfenmdlaaDoorQFnExactLabelReadOpen
namespace Go.Proofs.YtomkkhkfenmdlaaDoor.Pure
open Go.RowKit Go.Proofs.YtomkkhkfenmdlaaDoor.QFnExactLabelRead Go.Proofs.YtomkkhkfenmdlaaDoorW.PrintWords Go.Proofs.YtomkkhkfenmdlaaDoorW.PrintLast
set_option linter.unusedSimpArgs false
set_option linter.unusedVariables false

theorem lab8 {a : Int} (h : 0 ≤ a ∧ a ≤ 7) : a = 0 ∨ a = 1 ∨ a = 2 ∨ a = 3 ∨ a = 4 ∨ a = 5 ∨ a = 6 ∨ a = 7 := by omega

def isL (a : Int) : Bool := decide (0 ≤ a ∧ a ≤ 7)
def U (a b : Int) : Bool := isL a && (isL b && (a.toNat &&& b.toNat == a.toNat))
def Jn (a b : Int) : Int := if isL a && isL b then ((a.toNat ||| b.toNat : Nat) : Int) else 0
def Mt (a b : Int) : Int := if isL a && isL b then ((a.toNat &&& b.toNat : Nat) : Int) else 0
def Hs (a i : Int) : Bool := isL a && (decide (0 ≤ i ∧ i < 3) && a.toNat.testBit i.toNat)
def Mn (a : Int) : Int := if isL a then ((Hs a 0).toNat + (Hs a 1).toNat + (Hs a 2).toNat : Nat) else 0
def Al (a : Int) : List Int := [0, 1, 2, 3, 4, 5, 6, 7].filter fun b => U b a
theorem fin8 {a : Int} (h : isL a = true) : ∃ x : Fin 8, a = (x.val : Int) := by
  simp [isL] at h
  obtain ⟨n, rfl⟩ := Int.eq_ofNat_of_zero_le h.1
  exact ⟨⟨n, by omega⟩, rfl⟩

theorem iIs (a : Int) : impl_LabelOk.f a = some (isL a) := by
  unfold impl_LabelOk.f isL
  by_cases h : 0 ≤ a
  · rw [if_pos h]; simp [h]
  · rw [if_neg h]; simp [h]

theorem sTx8 : ∀ a : Fin 8, spec_LabelText.f 10 (a.val : Int) = some (tx a.val) := by decide +kernel
theorem sTx (k : Nat) (hk : 10 ≤ k) (a : Int) : spec_LabelText.f k a = impl_LabelText.f a := by
  unfold impl_LabelText.f
  by_cases h : 0 ≤ a ∧ a ≤ 7
  · rw [if_pos h]
    obtain ⟨x, rfl⟩ := fin8 (show isL a = true by simp [isL]; omega)
    exact at_rounds (g := fun k => spec_LabelText.f k (x.val : Int)) (fun k => spec_LabelText.mono _ k) hk (sTx8 x)
  · rw [if_neg h]
    unfold spec_LabelText.f spec_LabelOk.f
    by_cases h0 : a ≥ 0
    · rw [if_pos h0, decide_eq_false (by omega)]; rfl
    · rw [if_neg h0]; rfl

theorem w64 {x : Int} (h : -9223372036854775808 ≤ x ∧ x ≤ 9223372036854775807) : wrap64 x = x := by unfold wrap64; omega
theorem rdB {b : List Int} (hb : ∀ x ∈ b, 0 ≤ x ∧ x ≤ 255) (i : Int) : 0 ≤ rd b i ∧ rd b i ≤ 255 := by
  unfold rd
  rw [List.getD_eq_getElem?_getD]
  cases h : b[i.toNat]? with
  | none => simp
  | some v => exact hb v (List.mem_of_getElem? h)
theorem u8B {l : List Int} (h : ∀ x ∈ l, (Lit.int .u8 x).wf = true) : ∀ x ∈ l, 0 ≤ x ∧ x ≤ 255 := fun x hx => by
  have := h x hx
  simp [Lit.wf, IntKind.min, IntKind.max, IntKind.signed, IntKind.bits] at this
  omega

/-- The label of a text, from a place of the table on. -/
def Rd (s : ByteArray) : Nat → Int → Int × Bool
  | 0, _ => (0, false)
  | d + 1, i => if (tx i).toList = s.toList then (i, true) else Rd s d (i + 1)
theorem iRd_l0 (s : ByteArray) : ∀ (d k : Nat) (i : Int), 0 ≤ i → i + d = 8 → d < k → impl_LabelRead.l0 k s i = some (Rd s d i) := by
  intro d
  induction d with
  | zero =>
    intro k i h0 hd hk
    obtain ⟨k, rfl⟩ : ∃ m, k = m + 1 := ⟨k - 1, by omega⟩
    simp only [impl_LabelRead.l0, Rd]; rw [if_neg (by omega)]
  | succ d ih =>
    intro k i h0 hd hk
    obtain ⟨k, rfl⟩ : ∃ m, k = m + 1 := ⟨k - 1, by omega⟩
    simp only [impl_LabelRead.l0, Rd]; rw [if_pos (by omega), if_pos h0, w64 (x := i + 1) (by omega), ih k (i + 1) (by omega) (by omega) (by omega)]
    split <;> rfl
theorem sRd_l0 (s : ByteArray) : ∀ (d k : Nat) (i : Int), 0 ≤ i → i + d = 8 → d + 10 < k → spec_LabelRead.l0 k s i = some (Rd s d i) := by
  intro d
  induction d with
  | zero =>
    intro k i h0 hd hk
    obtain ⟨k, rfl⟩ : ∃ m, k = m + 1 := ⟨k - 1, by omega⟩
    simp only [spec_LabelRead.l0, Rd]; rw [if_neg (by omega)]
  | succ d ih =>
    intro k i h0 hd hk
    obtain ⟨k, rfl⟩ : ∃ m, k = m + 1 := ⟨k - 1, by omega⟩
    simp only [spec_LabelRead.l0, Rd]; rw [if_pos (by omega), sTx k (by omega), w64 (x := i + 1) (by omega), ih k (i + 1) (by omega) (by omega) (by omega)]
    unfold impl_LabelText.f
    rw [if_pos (by omega)]
    simp only [Option.bind_some]
    split <;> rfl
theorem iRd (s : ByteArray) (k : Nat) (hk : 20 ≤ k) : impl_LabelRead.f k s = some (Rd s 8 0) := iRd_l0 s 8 k 0 (by omega) (by omega) (by omega)
theorem sRd (s : ByteArray) (k : Nat) (hk : 20 ≤ k) : spec_LabelRead.f k s = some (Rd s 8 0) := sRd_l0 s 8 k 0 (by omega) (by omega) (by omega)
theorem Rd_true (s : ByteArray) : ∀ (d : Nat) (i : Int), 0 ≤ i → i + d = 8 → (Rd s d i).2 = true → 0 ≤ (Rd s d i).1 ∧ (Rd s d i).1 ≤ 7 ∧ (tx (Rd s d i).1).toList = s.toList
  | 0, i, h0, hd, h => by simp [Rd] at h
  | d + 1, i, h0, hd, h => by
    unfold Rd at h ⊢
    split
    · rename_i c; exact ⟨h0, by omega, c⟩
    · rename_i c; rw [if_neg c] at h; exact Rd_true s d (i + 1) (by omega) (by omega) h

theorem FnExactLabelRead : laws_FnExactLabelRead.Pure := by
  intro s _
  refine ⟨20, ?_⟩
  unfold laws_FnExactLabelRead.f
  rw [sRd s 20 (by decide), iRd s 20 (by decide)]
  simp

end Go.Proofs.YtomkkhkfenmdlaaDoor.Pure
