/- The plain law behind FnLabelList: lower sets intersect at the meet, at whatever two numbers are drawn. -/
import Derived.Test.YteilpkckaecomaaPFnLabelListx3
namespace Go.Proofs.Yteilpkckaecomaa.Pure
open Go.RowKit Go.Proofs.Yteilpkckaecomaa.PFnLabelList Go.Proofs.YteilpkckaecomaaW.PrintWords Go.Proofs.YteilpkckaecomaaW.PrintLast
set_option linter.unusedSimpArgs false
set_option linter.unusedVariables false

theorem lab8 {a : Int} (h : 0 ≤ a ∧ a ≤ 7) : a = 0 ∨ a = 1 ∨ a = 2 ∨ a = 3 ∨ a = 4 ∨ a = 5 ∨ a = 6 ∨ a = 7 := by omega

def isL (a : Int) : Bool := decide (0 ≤ a ∧ a ≤ 7)
def U (a b : Int) : Bool := isL a && (isL b && (a.toNat &&& b.toNat == a.toNat))
def Jn (a b : Int) : Int := if isL a && isL b then ((a.toNat ||| b.toNat : Nat) : Int) else 0
def Mt (a b : Int) : Int := if isL a && isL b then ((a.toNat &&& b.toNat : Nat) : Int) else 0
def Hs (a i : Int) : Bool := isL a && (decide (0 ≤ i ∧ i < 3) && a.toNat.testBit i.toNat)
def Mn (a : Int) : Int := if isL a then ((Hs a 0).toNat + (Hs a 1).toNat + (Hs a 2).toNat : Nat) else 0
def Al (a : Int) : List Int := [0, 1, 2, 3, 4, 5, 6, 7].filter fun b => U b a
theorem fin8 {a : Int} (h : isL a = true) : ∃ x : Fin 8, a = (x.val : Int) := by
  simp [isL] at h
  obtain ⟨n, rfl⟩ := Int.eq_ofNat_of_zero_le h.1
  exact ⟨⟨n, by omega⟩, rfl⟩

theorem iIs (a : Int) : impl_LabelOk.f a = some (isL a) := by
  unfold impl_LabelOk.f isL
  by_cases h : 0 ≤ a
  · rw [if_pos h]; simp [h]
  · rw [if_neg h]; simp [h]

theorem iU8 : ∀ a b : Fin 8, impl_LabelUnder.f (a.val : Int) (b.val : Int) = some (U a.val b.val) := by decide +kernel
theorem iU (a b : Int) : impl_LabelUnder.f a b = some (U a b) := by
  by_cases ha : isL a = true
  · by_cases hb : isL b = true
    · obtain ⟨x, rfl⟩ := fin8 ha
      obtain ⟨y, rfl⟩ := fin8 hb
      exact iU8 x y
    · simp [impl_LabelUnder.f, iIs, U, ha, hb]
  · simp [impl_LabelUnder.f, iIs, U, ha]

theorem sIs (a : Int) : spec_LabelOk.f a = some (isL a) := by
  unfold spec_LabelOk.f isL
  by_cases h : a ≥ 0
  · rw [if_pos h]; simp [h]
  · rw [if_neg h]; simp [h]

theorem sU8 : ∀ a b : Fin 8, spec_LabelUnder.f 12 (a.val : Int) (b.val : Int) = some (U a.val b.val) := by decide +kernel
theorem sU (k : Nat) (hk : 12 ≤ k) (a b : Int) : spec_LabelUnder.f k a b = some (U a b) := by
  by_cases ha : isL a = true
  · by_cases hb : isL b = true
    · obtain ⟨x, rfl⟩ := fin8 ha
      obtain ⟨y, rfl⟩ := fin8 hb
      exact at_rounds (g := fun k => spec_LabelUnder.f k (x.val : Int) (y.val : Int)) (fun k => spec_LabelUnder.mono _ _ k) hk (sU8 x y)
    · simp [spec_LabelUnder.f, sIs, U, ha, hb]
  · simp [spec_LabelUnder.f, sIs, U, ha]

theorem iMt8 : ∀ a b : Fin 8, impl_LabelMeet.f (a.val : Int) (b.val : Int) = some (Mt a.val b.val) := by decide +kernel
theorem iMt (a b : Int) : impl_LabelMeet.f a b = some (Mt a b) := by
  by_cases ha : isL a = true
  · by_cases hb : isL b = true
    · obtain ⟨x, rfl⟩ := fin8 ha
      obtain ⟨y, rfl⟩ := fin8 hb
      exact iMt8 x y
    · simp [impl_LabelMeet.f, iIs, Mt, ha, hb]
  · simp [impl_LabelMeet.f, iIs, Mt, ha]

theorem iAl8 : ∀ a : Fin 8, impl_LabelAll.f 24 (a.val : Int) = some (Al a.val) := by decide +kernel
theorem iAl (k : Nat) (hk : 24 ≤ k) (a : Int) : impl_LabelAll.f k a = some (Al a) := by
  refine at_rounds (g := fun k => impl_LabelAll.f k a) (fun k => impl_LabelAll.mono _ k) hk ?_
  by_cases ha : isL a = true
  · obtain ⟨x, rfl⟩ := fin8 ha
    exact iAl8 x
  · have hl : ∀ k x y, 12 ≤ k → impl_LabelAll.l0 (k + 1) a x y = if y ≤ 7 then impl_LabelAll.l0 k a x (wrap64 (y + 1)) else some x := fun k x y hk => by
      simp [impl_LabelAll.l0, iU, U, ha]
    show impl_LabelAll.f 24 a = _
    unfold impl_LabelAll.f
    rw [hl 23 _ _ (by decide), if_pos (by decide +kernel), hl 22 _ _ (by decide), if_pos (by decide +kernel), hl 21 _ _ (by decide), if_pos (by decide +kernel), hl 20 _ _ (by decide), if_pos (by decide +kernel), hl 19 _ _ (by decide), if_pos (by decide +kernel), hl 18 _ _ (by decide), if_pos (by decide +kernel), hl 17 _ _ (by decide), if_pos (by decide +kernel), hl 16 _ _ (by decide), if_pos (by decide +kernel), hl 15 _ _ (by decide), if_neg (by decide +kernel)]
    simp [Al, U, ha]

theorem sAl8 : ∀ a : Fin 8, spec_LabelAll.f 24 (a.val : Int) = some (Al a.val) := by decide +kernel
theorem sAl (k : Nat) (hk : 24 ≤ k) (a : Int) : spec_LabelAll.f k a = some (Al a) := by
  refine at_rounds (g := fun k => spec_LabelAll.f k a) (fun k => spec_LabelAll.mono _ k) hk ?_
  by_cases ha : isL a = true
  · obtain ⟨x, rfl⟩ := fin8 ha
    exact sAl8 x
  · have hl : ∀ k x y, 12 ≤ k → spec_LabelAll.l0 (k + 1) a x y = if y ≤ 7 then spec_LabelAll.l0 k a x (wrap64 (y + 1)) else some x := fun k x y hk => by
      simp [spec_LabelAll.l0, sU k hk, U, ha]
    show spec_LabelAll.f 24 a = _
    unfold spec_LabelAll.f
    rw [hl 23 _ _ (by decide), if_pos (by decide +kernel), hl 22 _ _ (by decide), if_pos (by decide +kernel), hl 21 _ _ (by decide), if_pos (by decide +kernel), hl 20 _ _ (by decide), if_pos (by decide +kernel), hl 19 _ _ (by decide), if_pos (by decide +kernel), hl 18 _ _ (by decide), if_pos (by decide +kernel), hl 17 _ _ (by decide), if_pos (by decide +kernel), hl 16 _ _ (by decide), if_pos (by decide +kernel), hl 15 _ _ (by decide), if_neg (by decide +kernel)]
    simp [Al, U, ha]

theorem w64 {x : Int} (h : -9223372036854775808 ≤ x ∧ x ≤ 9223372036854775807) : wrap64 x = x := by unfold wrap64; omega
theorem rdB {b : List Int} (hb : ∀ x ∈ b, 0 ≤ x ∧ x ≤ 255) (i : Int) : 0 ≤ rd b i ∧ rd b i ≤ 255 := by
  unfold rd
  rw [List.getD_eq_getElem?_getD]
  cases h : b[i.toNat]? with
  | none => simp
  | some v => exact hb v (List.mem_of_getElem? h)
theorem u8B {l : List Int} (h : ∀ x ∈ l, (Lit.int .u8 x).wf = true) : ∀ x ∈ l, 0 ≤ x ∧ x ≤ 255 := fun x hx => by
  have := h x hx
  simp [Lit.wf, IntKind.min, IntKind.max, IntKind.signed, IntKind.bits] at this
  omega

theorem xor_nn {x y : Int} (hx : 0 ≤ x) (hx1 : x < 4611686018427387904) (hy : 0 ≤ y) (hy1 : y < 4611686018427387904) : 0 ≤ Go.bits .xor .i64 x y := by
  obtain ⟨a, rfl⟩ := Int.eq_ofNat_of_zero_le hx
  obtain ⟨b, rfl⟩ := Int.eq_ofNat_of_zero_le hy
  have ha : a < 2 ^ 62 := by omega
  have hb : b < 2 ^ 62 := by omega
  have hab : a ^^^ b < 2 ^ 62 := Nat.xor_lt_two_pow ha hb
  have ea : a % 2 ^ IntKind.i64.bits = a := Nat.mod_eq_of_lt (by simp [IntKind.bits]; omega)
  have eb : b % 2 ^ IntKind.i64.bits = b := Nat.mod_eq_of_lt (by simp [IntKind.bits]; omega)
  simp only [Go.bits, BitVec.ofInt_natCast, BitVec.toNat_xor, BitVec.toNat_ofNat, ea, eb]
  rw [IntKind.wrap_i64]
  omega

theorem pick_ok (k : Nat) (hk : 1 ≤ k) (b : List Int) (p n : Int) (hb : ∀ x ∈ b, 0 ≤ x ∧ x ≤ 255) (hp0 : 0 ≤ p) (hp : p ≤ 1000000) (hn : 1 ≤ n) :
    ∃ v, spec_l9Rd_pick.f k b p n = some (v, p + 1) ∧ 0 ≤ v ∧ v < n := by
  obtain ⟨k, rfl⟩ : ∃ m, k = m + 1 := ⟨k - 1, by omega⟩
  have w1 : wrap64 (p + 1) = p + 1 := w64 (by omega)
  have w2 : wrap64 (p + 1 - 1) = p := by rw [Int.add_sub_cancel]; exact w64 (by omega)
  unfold spec_l9Rd_pick.f
  rw [if_neg (by omega), w1]
  by_cases he : (b.length : Int) = 0
  · rw [show ((b.length : Int) == 0) = true by simpa using he]
    exact ⟨0, by simp [spec_l9Rd_pick.j0], by omega, by omega⟩
  · rw [show ((b.length : Int) == 0) = false by simpa using he]
    simp only [spec_l9Rd_pick.j0, w2]
    rw [if_neg (by decide)]
    by_cases h1 : p < (b.length : Int)
    · rw [if_pos h1, if_pos hp0, if_neg (by omega), w64 (x := rd b p) (by have := rdB hb p; omega)]
      exact ⟨_, rfl, Int.tmod_nonneg _ (rdB hb p).1, Int.tmod_lt_of_pos _ (by omega)⟩
    · have hl : (0 : Int) < b.length := by omega
      rw [if_neg h1, if_neg he]
      have m0 : 0 ≤ Int.tmod p b.length := Int.tmod_nonneg _ hp0
      have m1 : Int.tmod p b.length < b.length := Int.tmod_lt_of_pos _ hl
      have w3 : wrap64 (wrap64 (p * 7) + 3) = p * 7 + 3 := by rw [w64 (x := p * 7) (by omega)]; exact w64 (by omega)
      have m2 : 0 ≤ Int.tmod (p * 7 + 3) b.length := Int.tmod_nonneg _ (by omega)
      have m3 : Int.tmod (p * 7 + 3) b.length < b.length := Int.tmod_lt_of_pos _ hl
      rw [if_pos m0, if_pos m1, w3, if_pos m2, if_pos m3, if_neg (by omega)]
      have r1 := rdB hb (Int.tmod p b.length)
      have r2 := rdB hb (Int.tmod (p * 7 + 3) b.length)
      have d0 : 0 ≤ Int.tdiv p b.length := Int.tdiv_nonneg hp0 (by omega)
      have d1 : Int.tdiv p b.length ≤ p := Int.tdiv_le_self _ hp0
      generalize rd b (Int.tmod p b.length) = R1 at *
      generalize rd b (Int.tmod (p * 7 + 3) b.length) = R2 at *
      generalize Int.tdiv p b.length = D at *
      rw [w64 (x := R1) (by omega), w64 (x := R2) (by omega), w64 (x := D) (by omega), w64 (x := R1 * 131) (by omega), w64 (x := R2 * 1117) (by omega), w64 (x := p * 29) (by omega), w64 (x := D * 53) (by omega), w64 (x := R1 * 131 + R2 * 1117) (by omega),
        w64 (x := R1 * 131 + R2 * 1117 + p * 29) (by omega), w64 (x := R1 * 131 + R2 * 1117 + p * 29 + D * 53) (by omega)]
      have x0 : 0 ≤ R1 * 131 + R2 * 1117 + p * 29 + D * 53 := by omega
      have x1 : R1 * 131 + R2 * 1117 + p * 29 + D * 53 < 4611686018427387904 := by omega
      generalize R1 * 131 + R2 * 1117 + p * 29 + D * 53 = X at *
      have y0 : 0 ≤ Int.tdiv X 64 := Int.tdiv_nonneg x0 (by decide)
      have y1 : Int.tdiv X 64 ≤ X := Int.tdiv_le_self _ x0
      rw [w64 (x := Int.tdiv X 64) (by omega)]
      exact ⟨_, rfl, Int.tmod_nonneg _ (xor_nn x0 x1 y0 (by omega)), Int.tmod_lt_of_pos _ (by omega)⟩
theorem open_ok (l : List Int) (hl : ∀ x ∈ l, 0 ≤ x ∧ x ≤ 255) : ∃ b, spec_l9Open.f l = some (b, 0) ∧ ∀ x ∈ b, 0 ≤ x ∧ x ≤ 255 := by
  unfold spec_l9Open.f
  by_cases h : (l.length : Int) > 2000
  · rw [if_pos h, if_pos (by omega)]
    exact ⟨_, rfl, fun x hx => hl x (List.mem_of_mem_take hx)⟩
  · rw [if_neg h]; exact ⟨_, rfl, hl⟩

theorem num_ok (k : Nat) (hk : 1 ≤ k) (b : List Int) (p : Int) (l : List Int) (hb : ∀ x ∈ b, 0 ≤ x ∧ x ≤ 255) (hp0 : 0 ≤ p) (hp : p ≤ 1000000) (hn : 1 ≤ l.length) :
    ∃ v, spec_l9Rd_num.f k b p l = some (v, p + 1) ∧ v ∈ l := by
  obtain ⟨v, hv, v0, v1⟩ := pick_ok k hk b p (l.length : Int) hb hp0 hp (by omega)
  unfold spec_l9Rd_num.f
  rw [hv]
  simp only [Option.bind_some]
  rw [if_pos v0, if_pos v1]
  refine ⟨_, rfl, ?_⟩
  unfold rd
  rw [List.getD_eq_getElem?_getD, List.getElem?_eq_getElem (by omega)]
  exact List.getElem_mem _

theorem l1Label_ok (k : Nat) (hk : 1 ≤ k) (b : List Int) (p : Int) (hb : ∀ x ∈ b, 0 ≤ x ∧ x ≤ 255) (hp0 : 0 ≤ p) (hp : p ≤ 900000) :
    ∃ v, spec_l1Label.f k b p = some (v, p + 2) ∧ -9223372036854775808 ≤ v ∧ v ≤ 9223372036854775807 := by
  obtain ⟨v, hv, v0, v1⟩ := pick_ok k hk b p 20 hb hp0 (by omega) (by omega)
  unfold spec_l1Label.f
  rw [hv]
  simp only [Option.bind_some]
  by_cases h : v = 0
  · rw [if_pos h]
    obtain ⟨u, hu, um⟩ := num_ok k hk b (p + 1) [(-1), 8, 9223372036854775807, (-9223372036854775808)] hb (by omega) (by omega) (by decide)
    rw [hu]
    refine ⟨u, by simp; omega, ?_⟩
    simp at um; omega
  · rw [if_neg h]
    obtain ⟨u, hu, u0, u1⟩ := pick_ok k hk b (p + 1) 8 hb (by omega) (by omega) (by omega)
    rw [hu]
    exact ⟨u, by simp; omega, by omega, by omega⟩

theorem l1Pair_ok (k : Nat) (hk : 1 ≤ k) (b : List Int) (p : Int) (hb : ∀ x ∈ b, 0 ≤ x ∧ x ≤ 255) (hp0 : 0 ≤ p) (hp : p ≤ 800000) :
    ∃ u v, spec_l1Pair.f k b p = some (u, v, p + 2 + 2) := by
  obtain ⟨u, hu, _⟩ := l1Label_ok k hk b p hb hp0 (by omega)
  obtain ⟨v, hv, _⟩ := l1Label_ok k hk b (p + 2) hb (by omega) (by omega)
  exact ⟨u, v, by unfold spec_l1Pair.f; rw [hu]; simp only [Option.bind_some]; rw [hv]; rfl⟩

theorem drawMeet (k : Nat) (hk : 1 ≤ k) (l : List Int) (hl : ∀ x ∈ l, (Lit.int .u8 x).wf = true) : ∃ u v, spec_DrawLabelMeet.f k l = some (u, v) := by
  obtain ⟨b, hb, hB⟩ := open_ok l (u8B hl)
  obtain ⟨u, v, h⟩ := l1Pair_ok k hk b 0 hB (by omega) (by omega)
  exact ⟨u, v, by unfold spec_DrawLabelMeet.f; rw [hb]; simp only [Option.bind_some]; rw [h]; rfl⟩

theorem self8 : ∀ a : Fin 8, laws_wpInts.f 20 (Al a.val) (Al a.val) = some true := by decide +kernel
theorem self (k : Nat) (hk : 20 ≤ k) (a : Int) : laws_wpInts.f k (Al a) (Al a) = some true := by
  refine at_rounds (g := fun k => laws_wpInts.f k (Al a) (Al a)) (fun k => laws_wpInts.mono _ _ k) hk ?_
  by_cases ha : isL a = true
  · obtain ⟨x, rfl⟩ := fin8 ha
    exact self8 x
  · simp [laws_wpInts.f, laws_wpInts.l0, Al, U, ha]
theorem list8 : ∀ a b : Fin 8, laws_FnLabelList.j0 120 (a.val : Int) (b.val : Int) (Al a.val) (Al b.val) false = some true := by decide +kernel
theorem FnLabelList : laws_FnLabelList.Pure := by
  intro l0 _ _ b0
  refine ⟨120, ?_⟩
  unfold laws_FnLabelList.f
  by_cases g0 : (l0.length : Int) > 1048576
  · rw [if_pos g0]
  rw [if_neg g0]
  obtain ⟨a, b, h0⟩ := drawMeet 120 (by decide) l0 b0
  simp only [h0, Option.bind_some]
  clear h0 g0
  simp only [iAl 120 (by decide), sAl 120 (by decide), self 120 (by decide), iIs, Option.bind_some, if_true]
  by_cases ha : isL a = true
  · by_cases hb : isL b = true
    · rw [ha, hb, if_pos rfl]
      obtain ⟨x, rfl⟩ := fin8 ha
      obtain ⟨y, rfl⟩ := fin8 hb
      exact list8 x y
    · simp [laws_FnLabelList.j0, sAl 119 (by decide), self 119 (by decide), ha, hb]
  · simp [laws_FnLabelList.j0, sAl 119 (by decide), self 119 (by decide), ha]

end Go.Proofs.Yteilpkckaecomaa.Pure
