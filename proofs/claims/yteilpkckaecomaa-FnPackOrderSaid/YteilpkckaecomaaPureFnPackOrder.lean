/- The plain law behind FnPackOrder: packed numbers keep their order, and none begins another, at whatever two numbers are drawn. -/
import Derived.Test.YteilpkckaecomaaHFnPackOrder
namespace Go.Proofs.Yteilpkckaecomaa.Pure
open Go.RowKit Go.Proofs.Yteilpkckaecomaa.PFnPackOrder Go.Proofs.YteilpkckaecomaaW.PrintWords Go.Proofs.YteilpkckaecomaaW.PrintLast
set_option linter.unusedSimpArgs false
set_option linter.unusedVariables false

theorem w64 {x : Int} (h : -9223372036854775808 ≤ x ∧ x ≤ 9223372036854775807) : wrap64 x = x := by unfold wrap64; omega
theorem rdB {b : List Int} (hb : ∀ x ∈ b, 0 ≤ x ∧ x ≤ 255) (i : Int) : 0 ≤ rd b i ∧ rd b i ≤ 255 := by
  unfold rd
  rw [List.getD_eq_getElem?_getD]
  cases h : b[i.toNat]? with
  | none => simp
  | some v => exact hb v (List.mem_of_getElem? h)
theorem u8B {l : List Int} (h : ∀ x ∈ l, (Lit.int .u8 x).wf = true) : ∀ x ∈ l, 0 ≤ x ∧ x ≤ 255 := fun x hx => by
  have := h x hx
  simp [Lit.wf, IntKind.min, IntKind.max, IntKind.signed, IntKind.bits] at this
  omega

theorem xor_nn {x y : Int} (hx : 0 ≤ x) (hx1 : x < 4611686018427387904) (hy : 0 ≤ y) (hy1 : y < 4611686018427387904) : 0 ≤ Go.bits .xor .i64 x y := by
  obtain ⟨a, rfl⟩ := Int.eq_ofNat_of_zero_le hx
  obtain ⟨b, rfl⟩ := Int.eq_ofNat_of_zero_le hy
  have ha : a < 2 ^ 62 := by omega
  have hb : b < 2 ^ 62 := by omega
  have hab : a ^^^ b < 2 ^ 62 := Nat.xor_lt_two_pow ha hb
  have ea : a % 2 ^ IntKind.i64.bits = a := Nat.mod_eq_of_lt (by simp [IntKind.bits]; omega)
  have eb : b % 2 ^ IntKind.i64.bits = b := Nat.mod_eq_of_lt (by simp [IntKind.bits]; omega)
  simp only [Go.bits, BitVec.ofInt_natCast, BitVec.toNat_xor, BitVec.toNat_ofNat, ea, eb]
  rw [IntKind.wrap_i64]
  omega

theorem pick_ok (k : Nat) (hk : 1 ≤ k) (b : List Int) (p n : Int) (hb : ∀ x ∈ b, 0 ≤ x ∧ x ≤ 255) (hp0 : 0 ≤ p) (hp : p ≤ 1000000) (hn : 1 ≤ n) :
    ∃ v, spec_l9Rd_pick.f k b p n = some (v, p + 1) ∧ 0 ≤ v ∧ v < n := by
  obtain ⟨k, rfl⟩ : ∃ m, k = m + 1 := ⟨k - 1, by omega⟩
  have w1 : wrap64 (p + 1) = p + 1 := w64 (by omega)
  have w2 : wrap64 (p + 1 - 1) = p := by rw [Int.add_sub_cancel]; exact w64 (by omega)
  unfold spec_l9Rd_pick.f
  rw [if_neg (by omega), w1]
  by_cases he : (b.length : Int) = 0
  · rw [show ((b.length : Int) == 0) = true by simpa using he]
    exact ⟨0, by simp [spec_l9Rd_pick.j0], by omega, by omega⟩
  · rw [show ((b.length : Int) == 0) = false by simpa using he]
    simp only [spec_l9Rd_pick.j0, w2]
    rw [if_neg (by decide)]
    by_cases h1 : p < (b.length : Int)
    · rw [if_pos h1, if_pos hp0, if_neg (by omega), w64 (x := rd b p) (by have := rdB hb p; omega)]
      exact ⟨_, rfl, Int.tmod_nonneg _ (rdB hb p).1, Int.tmod_lt_of_pos _ (by omega)⟩
    · have hl : (0 : Int) < b.length := by omega
      rw [if_neg h1, if_neg he]
      have m0 : 0 ≤ Int.tmod p b.length := Int.tmod_nonneg _ hp0
      have m1 : Int.tmod p b.length < b.length := Int.tmod_lt_of_pos _ hl
      have w3 : wrap64 (wrap64 (p * 7) + 3) = p * 7 + 3 := by rw [w64 (x := p * 7) (by omega)]; exact w64 (by omega)
      have m2 : 0 ≤ Int.tmod (p * 7 + 3) b.length := Int.tmod_nonneg _ (by omega)
      have m3 : Int.tmod (p * 7 + 3) b.length < b.length := Int.tmod_lt_of_pos _ hl
      rw [if_pos m0, if_pos m1, w3, if_pos m2, if_pos m3, if_neg (by omega)]
      have r1 := rdB hb (Int.tmod p b.length)
      have r2 := rdB hb (Int.tmod (p * 7 + 3) b.length)
      have d0 : 0 ≤ Int.tdiv p b.length := Int.tdiv_nonneg hp0 (by omega)
      have d1 : Int.tdiv p b.length ≤ p := Int.tdiv_le_self _ hp0
      generalize rd b (Int.tmod p b.length) = R1 at *
      generalize rd b (Int.tmod (p * 7 + 3) b.length) = R2 at *
      generalize Int.tdiv p b.length = D at *
      rw [w64 (x := R1) (by omega), w64 (x := R2) (by omega), w64 (x := D) (by omega), w64 (x := R1 * 131) (by omega), w64 (x := R2 * 1117) (by omega), w64 (x := p * 29) (by omega), w64 (x := D * 53) (by omega), w64 (x := R1 * 131 + R2 * 1117) (by omega),
        w64 (x := R1 * 131 + R2 * 1117 + p * 29) (by omega), w64 (x := R1 * 131 + R2 * 1117 + p * 29 + D * 53) (by omega)]
      have x0 : 0 ≤ R1 * 131 + R2 * 1117 + p * 29 + D * 53 := by omega
      have x1 : R1 * 131 + R2 * 1117 + p * 29 + D * 53 < 4611686018427387904 := by omega
      generalize R1 * 131 + R2 * 1117 + p * 29 + D * 53 = X at *
      have y0 : 0 ≤ Int.tdiv X 64 := Int.tdiv_nonneg x0 (by decide)
      have y1 : Int.tdiv X 64 ≤ X := Int.tdiv_le_self _ x0
      rw [w64 (x := Int.tdiv X 64) (by omega)]
      exact ⟨_, rfl, Int.tmod_nonneg _ (xor_nn x0 x1 y0 (by omega)), Int.tmod_lt_of_pos _ (by omega)⟩
theorem open_ok (l : List Int) (hl : ∀ x ∈ l, 0 ≤ x ∧ x ≤ 255) : ∃ b, spec_l9Open.f l = some (b, 0) ∧ ∀ x ∈ b, 0 ≤ x ∧ x ≤ 255 := by
  unfold spec_l9Open.f
  by_cases h : (l.length : Int) > 2000
  · rw [if_pos h, if_pos (by omega)]
    exact ⟨_, rfl, fun x hx => hl x (List.mem_of_mem_take hx)⟩
  · rw [if_neg h]; exact ⟨_, rfl, hl⟩

theorem num_ok (k : Nat) (hk : 1 ≤ k) (b : List Int) (p : Int) (l : List Int) (hb : ∀ x ∈ b, 0 ≤ x ∧ x ≤ 255) (hp0 : 0 ≤ p) (hp : p ≤ 1000000) (hn : 1 ≤ l.length) :
    ∃ v, spec_l9Rd_num.f k b p l = some (v, p + 1) ∧ v ∈ l := by
  obtain ⟨v, hv, v0, v1⟩ := pick_ok k hk b p (l.length : Int) hb hp0 hp (by omega)
  unfold spec_l9Rd_num.f
  rw [hv]
  simp only [Option.bind_some]
  rw [if_pos v0, if_pos v1]
  refine ⟨_, rfl, ?_⟩
  unfold rd
  rw [List.getD_eq_getElem?_getD, List.getElem?_eq_getElem (by omega)]
  exact List.getElem_mem _

/-- The bytes of a number. -/
def Pk (n : Int) : List Int := if n < 0 ∨ n > 16383 then [] else if n < 128 then [n] else [128 + n / 128, n % 128]
theorem iPk (k : Nat) (hk : 1 ≤ k) (n : Int) : impl_PackNum.f k n = some (strOfNums (Pk n)) := by
  obtain ⟨k, rfl⟩ : ∃ m, k = m + 1 := ⟨k - 1, by omega⟩
  unfold impl_PackNum.f impl_appendNum.f Pk
  by_cases h0 : n < 0
  · rw [if_pos h0, if_pos (.inl h0)]; simp [impl_appendNum.j0]
  · rw [if_neg h0]
    by_cases h1 : n > 16383
    · rw [if_pos (.inr h1)]; simp [impl_appendNum.j0, h1]
    · rw [if_neg (by omega)]
      by_cases h2 : n < 128
      · simp [impl_appendNum.j0, h1, h2, Int.emod_eq_of_lt (show 0 ≤ n by omega) (show n < 256 by omega)]
      · have d1 : Int.tdiv n 128 = n / 128 := Int.tdiv_eq_ediv_of_nonneg (by omega)
        have d2 : Int.tmod n 128 = n % 128 := Int.tmod_eq_emod_of_nonneg (by omega)
        simp only [impl_appendNum.j0, d1, d2, w64 (x := n / 128) (by omega), w64 (x := 128 + n / 128) (by omega)]
        simp [h1, h2, Int.emod_eq_of_lt (show 0 ≤ 128 + n / 128 by omega) (show 128 + n / 128 < 256 by omega), Int.emod_eq_of_lt (show 0 ≤ n % 128 by omega) (show n % 128 < 256 by omega)]
theorem sPk (k : Nat) (hk : 1 ≤ k) (n : Int) : spec_PackNum.f k n = some (strOfNums (Pk n)) := by
  obtain ⟨k, rfl⟩ : ∃ m, k = m + 1 := ⟨k - 1, by omega⟩
  unfold spec_PackNum.f Pk
  by_cases h0 : n < 0
  · rw [if_pos h0, if_pos (.inl h0)]; simp [spec_PackNum.j0, strOfNums]
  · rw [if_neg h0]
    by_cases h1 : n > 16383
    · rw [if_pos (.inr h1)]; simp [spec_PackNum.j0, h1, strOfNums]
    · rw [if_neg (by omega)]
      by_cases h2 : n < 128
      · simp [spec_PackNum.j0, h1, h2, Int.emod_eq_of_lt (show 0 ≤ n by omega) (show n < 256 by omega)]
      · have d1 : Int.tdiv n 128 = n / 128 := Int.tdiv_eq_ediv_of_nonneg (by omega)
        have d2 : Int.tmod n 128 = n % 128 := Int.tmod_eq_emod_of_nonneg (by omega)
        simp only [spec_PackNum.j0, d1, d2, w64 (x := n / 128) (by omega), w64 (x := 128 + n / 128) (by omega)]
        simp [h1, h2, Int.emod_eq_of_lt (show 0 ≤ 128 + n / 128 by omega) (show 128 + n / 128 < 256 by omega), Int.emod_eq_of_lt (show 0 ≤ n % 128 by omega) (show n % 128 < 256 by omega)]
theorem drawPack (k : Nat) (hk : 1 ≤ k) (l : List Int) (hl : ∀ x ∈ l, (Lit.int .u8 x).wf = true) : ∃ n, spec_DrawPackNum.f k l = some n ∧ n ∈ ([0, 1, 127, 128, 129, 255, 300, 16383, 16384, -1, 9223372036854775807] : List Int) := by
  obtain ⟨b, hb, hB⟩ := open_ok l (u8B hl)
  obtain ⟨v, hv, hm⟩ := num_ok k hk b 0 [0, 1, 127, 128, 129, 255, 300, 16383, 16384, (-1), 9223372036854775807] hB (by omega) (by omega) (by decide)
  exact ⟨v, by unfold spec_DrawPackNum.f; rw [hb]; simp only [Option.bind_some]; rw [hv]; rfl, hm⟩
theorem rest11 : ∀ a ∈ ([0, 1, 127, 128, 129, 255, 300, 16383, 16384, -1, 9223372036854775807] : List Int), ∀ b ∈ ([0, 1, 127, 128, 129, 255, 300, 16383, 16384, -1, 9223372036854775807] : List Int),
    laws_FnPackOrder.j1 20 a b (strOfNums (Pk a)) (strOfNums (Pk b)) ((strOfNums (Pk a)).toList == [] || (strOfNums (Pk b)).toList == []) = some true := by decide +kernel
theorem FnPackOrder : laws_FnPackOrder.Pure := by
  intro l0 l1 _ _ b0 _ _ b1
  refine ⟨21, ?_⟩
  unfold laws_FnPackOrder.f
  by_cases g0 : (l0.length : Int) > 1048576
  · rw [if_pos g0]; simp [laws_FnPackOrder.j0]
  rw [if_neg g0]
  by_cases g1 : (l1.length : Int) > 1048576
  · simp [laws_FnPackOrder.j0, g1]
  obtain ⟨a, h0, ha⟩ := drawPack 20 (by decide) l0 b0
  obtain ⟨b, h1, hb⟩ := drawPack 20 (by decide) l1 b1
  rw [decide_eq_false g1]
  have h := rest11 a ha b hb
  simp only [laws_FnPackOrder.j0, Bool.false_eq_true, if_false, h0, h1, Option.bind_some, iPk 20 (by decide), sPk 20 (by decide), if_true]
  by_cases e : (strOfNums (Pk a)).toList = []
  · rw [if_pos e]; rw [e] at h; exact h
  · rw [if_neg e]; rw [beq_eq_false_iff_ne.2 e, Bool.false_or] at h; exact h

end Go.Proofs.Yteilpkckaecomaa.Pure
