/- The plain law behind FnEdgeOk: whatever edge is drawn, both functions tell the same of it, and an edge that is told right is no more visible than its ends. -/
import Derived.Test.YtomkkhkfenmdlaaQFnEdgeOkOpen
namespace Go.Proofs.Ytomkkhkfenmdlaa.Pure
open Go.RowKit Go.Proofs.Ytomkkhkfenmdlaa.QFnEdgeOk Go.Proofs.YtomkkhkfenmdlaaW.PrintWords Go.Proofs.YtomkkhkfenmdlaaW.PrintLast
set_option linter.unusedSimpArgs false
set_option linter.unusedVariables false

theorem w64 {x : Int} (h : -9223372036854775808 ≤ x ∧ x ≤ 9223372036854775807) : wrap64 x = x := by unfold wrap64; omega
theorem rdB {b : List Int} (hb : ∀ x ∈ b, 0 ≤ x ∧ x ≤ 255) (i : Int) : 0 ≤ rd b i ∧ rd b i ≤ 255 := by
  unfold rd
  rw [List.getD_eq_getElem?_getD]
  cases h : b[i.toNat]? with
  | none => simp
  | some v => exact hb v (List.mem_of_getElem? h)
theorem u8B {l : List Int} (h : ∀ x ∈ l, (Lit.int .u8 x).wf = true) : ∀ x ∈ l, 0 ≤ x ∧ x ≤ 255 := fun x hx => by
  have := h x hx
  simp [Lit.wf, IntKind.min, IntKind.max, IntKind.signed, IntKind.bits] at this
  omega

theorem xor_nn {x y : Int} (hx : 0 ≤ x) (hx1 : x < 4611686018427387904) (hy : 0 ≤ y) (hy1 : y < 4611686018427387904) : 0 ≤ Go.bits .xor .i64 x y := by
  obtain ⟨a, rfl⟩ := Int.eq_ofNat_of_zero_le hx
  obtain ⟨b, rfl⟩ := Int.eq_ofNat_of_zero_le hy
  have ha : a < 2 ^ 62 := by omega
  have hb : b < 2 ^ 62 := by omega
  have hab : a ^^^ b < 2 ^ 62 := Nat.xor_lt_two_pow ha hb
  have ea : a % 2 ^ IntKind.i64.bits = a := Nat.mod_eq_of_lt (by simp [IntKind.bits]; omega)
  have eb : b % 2 ^ IntKind.i64.bits = b := Nat.mod_eq_of_lt (by simp [IntKind.bits]; omega)
  simp only [Go.bits, BitVec.ofInt_natCast, BitVec.toNat_xor, BitVec.toNat_ofNat, ea, eb]
  rw [IntKind.wrap_i64]
  omega

theorem pick_ok (k : Nat) (hk : 1 ≤ k) (b : List Int) (p n : Int) (hb : ∀ x ∈ b, 0 ≤ x ∧ x ≤ 255) (hp0 : 0 ≤ p) (hp : p ≤ 1000000) (hn : 1 ≤ n) :
    ∃ v, spec_l9Rd_pick.f k b p n = some (v, p + 1) ∧ 0 ≤ v ∧ v < n := by
  obtain ⟨k, rfl⟩ : ∃ m, k = m + 1 := ⟨k - 1, by omega⟩
  have w1 : wrap64 (p + 1) = p + 1 := w64 (by omega)
  have w2 : wrap64 (p + 1 - 1) = p := by rw [Int.add_sub_cancel]; exact w64 (by omega)
  unfold spec_l9Rd_pick.f
  rw [if_neg (by omega), w1]
  by_cases he : (b.length : Int) = 0
  · rw [show ((b.length : Int) == 0) = true by simpa using he]
    exact ⟨0, by simp [spec_l9Rd_pick.j0], by omega, by omega⟩
  · rw [show ((b.length : Int) == 0) = false by simpa using he]
    simp only [spec_l9Rd_pick.j0, w2]
    rw [if_neg (by decide)]
    by_cases h1 : p < (b.length : Int)
    · rw [if_pos h1, if_pos hp0, if_neg (by omega), w64 (x := rd b p) (by have := rdB hb p; omega)]
      exact ⟨_, rfl, Int.tmod_nonneg _ (rdB hb p).1, Int.tmod_lt_of_pos _ (by omega)⟩
    · have hl : (0 : Int) < b.length := by omega
      rw [if_neg h1, if_neg he]
      have m0 : 0 ≤ Int.tmod p b.length := Int.tmod_nonneg _ hp0
      have m1 : Int.tmod p b.length < b.length := Int.tmod_lt_of_pos _ hl
      have w3 : wrap64 (wrap64 (p * 7) + 3) = p * 7 + 3 := by rw [w64 (x := p * 7) (by omega)]; exact w64 (by omega)
      have m2 : 0 ≤ Int.tmod (p * 7 + 3) b.length := Int.tmod_nonneg _ (by omega)
      have m3 : Int.tmod (p * 7 + 3) b.length < b.length := Int.tmod_lt_of_pos _ hl
      rw [if_pos m0, if_pos m1, w3, if_pos m2, if_pos m3, if_neg (by omega)]
      have r1 := rdB hb (Int.tmod p b.length)
      have r2 := rdB hb (Int.tmod (p * 7 + 3) b.length)
      have d0 : 0 ≤ Int.tdiv p b.length := Int.tdiv_nonneg hp0 (by omega)
      have d1 : Int.tdiv p b.length ≤ p := Int.tdiv_le_self _ hp0
      generalize rd b (Int.tmod p b.length) = R1 at *
      generalize rd b (Int.tmod (p * 7 + 3) b.length) = R2 at *
      generalize Int.tdiv p b.length = D at *
      rw [w64 (x := R1) (by omega), w64 (x := R2) (by omega), w64 (x := D) (by omega), w64 (x := R1 * 131) (by omega), w64 (x := R2 * 1117) (by omega), w64 (x := p * 29) (by omega), w64 (x := D * 53) (by omega), w64 (x := R1 * 131 + R2 * 1117) (by omega),
        w64 (x := R1 * 131 + R2 * 1117 + p * 29) (by omega), w64 (x := R1 * 131 + R2 * 1117 + p * 29 + D * 53) (by omega)]
      have x0 : 0 ≤ R1 * 131 + R2 * 1117 + p * 29 + D * 53 := by omega
      have x1 : R1 * 131 + R2 * 1117 + p * 29 + D * 53 < 4611686018427387904 := by omega
      generalize R1 * 131 + R2 * 1117 + p * 29 + D * 53 = X at *
      have y0 : 0 ≤ Int.tdiv X 64 := Int.tdiv_nonneg x0 (by decide)
      have y1 : Int.tdiv X 64 ≤ X := Int.tdiv_le_self _ x0
      rw [w64 (x := Int.tdiv X 64) (by omega)]
      exact ⟨_, rfl, Int.tmod_nonneg _ (xor_nn x0 x1 y0 (by omega)), Int.tmod_lt_of_pos _ (by omega)⟩
theorem open_ok (l : List Int) (hl : ∀ x ∈ l, 0 ≤ x ∧ x ≤ 255) : ∃ b, spec_l9Open.f l = some (b, 0) ∧ ∀ x ∈ b, 0 ≤ x ∧ x ≤ 255 := by
  unfold spec_l9Open.f
  by_cases h : (l.length : Int) > 2000
  · rw [if_pos h, if_pos (by omega)]
    exact ⟨_, rfl, fun x hx => hl x (List.mem_of_mem_take hx)⟩
  · rw [if_neg h]; exact ⟨_, rfl, hl⟩

theorem num_ok (k : Nat) (hk : 1 ≤ k) (b : List Int) (p : Int) (l : List Int) (hb : ∀ x ∈ b, 0 ≤ x ∧ x ≤ 255) (hp0 : 0 ≤ p) (hp : p ≤ 1000000) (hn : 1 ≤ l.length) :
    ∃ v, spec_l9Rd_num.f k b p l = some (v, p + 1) ∧ v ∈ l := by
  obtain ⟨v, hv, v0, v1⟩ := pick_ok k hk b p (l.length : Int) hb hp0 hp (by omega)
  unfold spec_l9Rd_num.f
  rw [hv]
  simp only [Option.bind_some]
  rw [if_pos v0, if_pos v1]
  refine ⟨_, rfl, ?_⟩
  unfold rd
  rw [List.getD_eq_getElem?_getD, List.getElem?_eq_getElem (by omega)]
  exact List.getElem_mem _

theorem l1Label_ok (k : Nat) (hk : 1 ≤ k) (b : List Int) (p : Int) (hb : ∀ x ∈ b, 0 ≤ x ∧ x ≤ 255) (hp0 : 0 ≤ p) (hp : p ≤ 900000) :
    ∃ v, spec_l1Label.f k b p = some (v, p + 2) ∧ -9223372036854775808 ≤ v ∧ v ≤ 9223372036854775807 := by
  obtain ⟨v, hv, v0, v1⟩ := pick_ok k hk b p 20 hb hp0 (by omega) (by omega)
  unfold spec_l1Label.f
  rw [hv]
  simp only [Option.bind_some]
  by_cases h : v = 0
  · rw [if_pos h]
    obtain ⟨u, hu, um⟩ := num_ok k hk b (p + 1) [(-1), 8, 9223372036854775807, (-9223372036854775808)] hb (by omega) (by omega) (by decide)
    rw [hu]
    refine ⟨u, by simp; omega, ?_⟩
    simp at um; omega
  · rw [if_neg h]
    obtain ⟨u, hu, u0, u1⟩ := pick_ok k hk b (p + 1) 8 hb (by omega) (by omega) (by omega)
    rw [hu]
    exact ⟨u, by simp; omega, by omega, by omega⟩

theorem lab8 {a : Int} (h : 0 ≤ a ∧ a ≤ 7) : a = 0 ∨ a = 1 ∨ a = 2 ∨ a = 3 ∨ a = 4 ∨ a = 5 ∨ a = 6 ∨ a = 7 := by omega

def isL (a : Int) : Bool := decide (0 ≤ a ∧ a ≤ 7)
def U (a b : Int) : Bool := isL a && (isL b && (a.toNat &&& b.toNat == a.toNat))
def Jn (a b : Int) : Int := if isL a && isL b then ((a.toNat ||| b.toNat : Nat) : Int) else 0
def Mt (a b : Int) : Int := if isL a && isL b then ((a.toNat &&& b.toNat : Nat) : Int) else 0
def Hs (a i : Int) : Bool := isL a && (decide (0 ≤ i ∧ i < 3) && a.toNat.testBit i.toNat)
def Mn (a : Int) : Int := if isL a then ((Hs a 0).toNat + (Hs a 1).toNat + (Hs a 2).toNat : Nat) else 0
def Al (a : Int) : List Int := [0, 1, 2, 3, 4, 5, 6, 7].filter fun b => U b a
theorem fin8 {a : Int} (h : isL a = true) : ∃ x : Fin 8, a = (x.val : Int) := by
  simp [isL] at h
  obtain ⟨n, rfl⟩ := Int.eq_ofNat_of_zero_le h.1
  exact ⟨⟨n, by omega⟩, rfl⟩

theorem iIs (a : Int) : impl_LabelOk.f a = some (isL a) := by
  unfold impl_LabelOk.f isL
  by_cases h : 0 ≤ a
  · rw [if_pos h]; simp [h]
  · rw [if_neg h]; simp [h]

def nOk (a b : Int) : Bool := isL a && decide (0 ≤ b ∧ b ≤ 40)
theorem nOk_iff {a b : Int} : nOk a b = true ↔ (0 ≤ a ∧ a ≤ 7) ∧ (0 ≤ b ∧ b ≤ 40) := by simp [nOk, isL]

theorem iN (a b : Int) : impl_NodeOk.f a b = some (nOk a b) := by
  unfold impl_NodeOk.f
  rw [iIs]
  cases h : isL a
  · simp [nOk, h]
  · by_cases hb : 0 ≤ b
    · simp [nOk, h, hb]
    · simp [nOk, h, hb]

theorem iC (a b : Int) : impl_NodeCode.f a b = some (if nOk a b = true then 64 * a + b else -1) := by
  unfold impl_NodeCode.f
  rw [iN]
  by_cases h : nOk a b = true
  · have h' := nOk_iff.1 h
    rw [if_pos h, w64 (x := 64 * a) (by omega), w64 (x := 64 * a + b) (by omega)]; simp [h]
  · rw [if_neg h]; simp [h]

theorem iU8 : ∀ a b : Fin 8, impl_LabelUnder.f (a.val : Int) (b.val : Int) = some (U a.val b.val) := by decide +kernel
theorem iU (a b : Int) : impl_LabelUnder.f a b = some (U a b) := by
  by_cases ha : isL a = true
  · by_cases hb : isL b = true
    · obtain ⟨x, rfl⟩ := fin8 ha
      obtain ⟨y, rfl⟩ := fin8 hb
      exact iU8 x y
    · simp [impl_LabelUnder.f, iIs, U, ha, hb]
  · simp [impl_LabelUnder.f, iIs, U, ha]

def EOk (l a b c d : Int) : Bool := isL l && (nOk a b && (nOk c d && (decide (64 * a + b < 64 * c + d) && (U a l && U c l))))
theorem nOk_l {a b : Int} (h : nOk a b = true) : isL a = true := by simp [nOk] at h; exact h.1

theorem iE (l a b c d : Int) : impl_EdgeOk.f l a b c d = some (EOk l a b c d) := by
  unfold impl_EdgeOk.f EOk
  simp only [iIs, iN, iC, iU, Option.bind_some]
  by_cases hl : isL l = true
  · by_cases ha : nOk a b = true
    · by_cases hc : nOk c d = true
      · by_cases h : 64 * a + b < 64 * c + d
        · cases h1 : U a l <;> simp [hl, ha, hc, h]
        · simp [hl, ha, hc, h]
      · simp [hl, ha, hc]
    · simp [hl, ha]
  · simp [hl]

theorem sIs (a : Int) : spec_LabelOk.f a = some (isL a) := by
  unfold spec_LabelOk.f isL
  by_cases h : a ≥ 0
  · rw [if_pos h]; simp [h]
  · rw [if_neg h]; simp [h]

theorem sN (a b : Int) : spec_NodeOk.f a b = some (nOk a b) := by
  unfold spec_NodeOk.f
  rw [sIs]
  cases h : isL a
  · simp [nOk, h]
  · by_cases hb : 0 ≤ b
    · simp [nOk, h, hb]
    · simp [nOk, h, hb]

theorem sC2 {a b : Int} (h : nOk a b = true) : spec_l2Code.f a b = some (64 * a + b) := by
  have h' := nOk_iff.1 h
  unfold spec_l2Code.f
  rw [w64 (x := a * 64) (by omega), w64 (x := a * 64 + b) (by omega), Int.mul_comm]


theorem l1U8 : ∀ a b : Fin 8, spec_l1Under.f 10 (a.val : Int) (b.val : Int) = some (U a.val b.val) := by decide +kernel
theorem l1U (k : Nat) (hk : 10 ≤ k) {a b : Int} (ha : isL a = true) (hb : isL b = true) : spec_l1Under.f k a b = some (U a b) := by
  obtain ⟨x, rfl⟩ := fin8 ha
  obtain ⟨y, rfl⟩ := fin8 hb
  exact at_rounds (g := fun k => spec_l1Under.f k (x.val : Int) (y.val : Int)) (fun k => spec_l1Under.mono _ _ k) hk (l1U8 x y)

theorem sE (k : Nat) (hk : 10 ≤ k) (l a b c d : Int) : spec_EdgeOk.f k l a b c d = some (EOk l a b c d) := by
  unfold spec_EdgeOk.f EOk
  simp only [sIs, sN, Option.bind_some]
  by_cases hl : isL l = true
  · by_cases ha : nOk a b = true
    · by_cases hc : nOk c d = true
      · simp only [sC2 ha, sC2 hc, l1U k hk (nOk_l ha) hl, l1U k hk (nOk_l hc) hl, Option.bind_some]
        by_cases h : 64 * a + b < 64 * c + d
        · cases h1 : U a l <;> simp [hl, ha, hc, h]
        · simp [hl, ha, hc, h]
      · simp [hl, ha, hc]
    · simp [hl, ha]
  · simp [hl]

theorem iJn8 : ∀ a b : Fin 8, impl_LabelJoin.f (a.val : Int) (b.val : Int) = some (Jn a.val b.val) := by decide +kernel
theorem iJn (a b : Int) : impl_LabelJoin.f a b = some (Jn a b) := by
  by_cases ha : isL a = true
  · by_cases hb : isL b = true
    · obtain ⟨x, rfl⟩ := fin8 ha
      obtain ⟨y, rfl⟩ := fin8 hb
      exact iJn8 x y
    · simp [impl_LabelJoin.f, iIs, Jn, ha, hb]
  · simp [impl_LabelJoin.f, iIs, Jn, ha]

theorem mix8 : ∀ a b : Fin 8, spec_l1Mix.f 12 (a.val : Int) (b.val : Int) false = some (Jn a.val b.val) := by decide +kernel
theorem mix (k : Nat) (hk : 12 ≤ k) {a b : Int} (ha : isL a = true) (hb : isL b = true) : spec_l1Mix.f k a b false = some (Jn a b) := by
  obtain ⟨x, rfl⟩ := fin8 ha
  obtain ⟨y, rfl⟩ := fin8 hb
  exact at_rounds (g := fun k => spec_l1Mix.f k (x.val : Int) (y.val : Int) false) (fun k => spec_l1Mix.mono _ _ _ k) hk (mix8 x y)
theorem Jn8 : ∀ a b : Fin 8, isL (Jn a.val b.val) = true := by decide +kernel
theorem Jn_l {a b : Int} (ha : isL a = true) (hb : isL b = true) : isL (Jn a b) = true := by
  obtain ⟨x, rfl⟩ := fin8 ha
  obtain ⟨y, rfl⟩ := fin8 hb
  exact Jn8 x y
theorem l2Node_ok (k : Nat) (hk : 1 ≤ k) (b : List Int) (p : Int) (hb : ∀ x ∈ b, 0 ≤ x ∧ x ≤ 255) (hp0 : 0 ≤ p) (hp : p ≤ 900000) :
    ∃ u v, spec_l2Node.f k b p = some (u, v, p + 2) ∧ nOk u v = true := by
  obtain ⟨u, hu, um⟩ := num_ok k hk b p [0, 1, 2, 3, 0, 1, 4, 7] hb hp0 (by omega) (by decide)
  obtain ⟨v, hv, vm⟩ := num_ok k hk b (p + 1) [0, 1, 2, 3, 40] hb (by omega) (by omega) (by decide)
  refine ⟨u, v, ?_, ?_⟩
  · unfold spec_l2Node.f; rw [hu]; simp only [Option.bind_some]; rw [hv]; simp; omega
  · rw [nOk_iff]
    simp at um vm
    omega
theorem l2Edge_j1 (k : Nat) (hk : 13 ≤ k) (b : List Int) (p : Int) (hb : ∀ x ∈ b, 0 ≤ x ∧ x ≤ 255) (hp0 : 0 ≤ p) (hp : p ≤ 900000) (x y u v : Int) (h1 : nOk x y = true) (h2 : nOk u v = true) :
    ∃ l a c d e, spec_l2Edge.j1 k b p x y u v = some (l, a, c, d, e, p + 1) ∧ isL l = true ∧ nOk a c = true ∧ nOk d e = true := by
  obtain ⟨k, rfl⟩ : ∃ m, k = m + 1 := ⟨k - 1, by omega⟩
  obtain ⟨w, hw, wm⟩ := num_ok k (by omega) b p [0, 0, 0, 1, 2, 4] hb hp0 (by omega) (by decide)
  have lx : isL x = true := by simp [nOk] at h1; exact h1.1
  have lu : isL u = true := by simp [nOk] at h2; exact h2.1
  have lw : isL w = true := by simp at wm; simp [isL]; omega
  simp only [spec_l2Edge.j1, mix k (by omega) lx lu, hw, mix k (by omega) (Jn_l lx lu) lw, sC2 h1, sC2 h2, Option.bind_some]
  by_cases c : 64 * x + y > 64 * u + v
  · rw [if_pos c]; exact ⟨_, _, _, _, _, rfl, Jn_l (Jn_l lx lu) lw, h2, h1⟩
  · rw [if_neg c]; exact ⟨_, _, _, _, _, rfl, Jn_l (Jn_l lx lu) lw, h1, h2⟩

theorem drawEdge (k : Nat) (hk : 15 ≤ k) (l : List Int) (hl : ∀ x ∈ l, (Lit.int .u8 x).wf = true) : ∃ a b c d e, spec_DrawEdgeOk.f k l = some (a, b, c, d, e) := by
  obtain ⟨k, rfl⟩ : ∃ m, k = m + 1 := ⟨k - 1, by omega⟩
  obtain ⟨b, hb, hB⟩ := open_ok l (u8B hl)
  obtain ⟨x, y, h1, n1⟩ := l2Node_ok (k + 1) (by omega) b 0 hB (by omega) (by omega)
  obtain ⟨u, v, h2, n2⟩ := l2Node_ok (k + 1) (by omega) b (0 + 2) hB (by omega) (by omega)
  obtain ⟨e0, e1, e2, e3, e4, h3, _⟩ := l2Edge_j1 k (by omega) b (0 + 2 + 2) hB (by omega) (by omega) x y u v n1 n2
  obtain ⟨q, hq, q0, q1⟩ := pick_ok (k + 1) (by omega) b (0 + 2 + 2 + 1) 8 hB (by omega) (by omega) (by omega)
  obtain ⟨w, hw, _⟩ := l1Label_ok (k + 1) (by omega) b (0 + 2 + 2 + 1 + 1) hB (by omega) (by omega)
  have h : spec_l2Edge.f (k + 1) b 0 [] [] = some (e0, e1, e2, e3, e4, 0 + 2 + 2 + 1) := by
    unfold spec_l2Edge.f
    rw [h1]; simp only [Option.bind_some]
    rw [h2]; simp only [Option.bind_some]
    rw [if_neg (by simp)]
    simp only [spec_l2Edge.j0]
    rw [if_neg (by simp)]; exact h3
  unfold spec_DrawEdgeOk.f
  rw [hb]; simp only [Option.bind_some]
  rw [h]; simp only [Option.bind_some]
  rw [hq]; simp only [Option.bind_some]
  by_cases c : q = 0
  · rw [if_pos c, hw]; exact ⟨_, _, _, _, _, rfl⟩
  · rw [if_neg c]
    by_cases c : q = 1
    · rw [if_pos c]; exact ⟨_, _, _, _, _, rfl⟩
    · rw [if_neg c]; exact ⟨_, _, _, _, _, rfl⟩
theorem Utr8 : ∀ a b c : Fin 8, U a.val b.val = true → U b.val c.val = true → U a.val c.val = true := by decide +kernel
theorem UJn8 : ∀ a b c : Fin 8, U a.val c.val = true → U b.val c.val = true → U (Jn a.val b.val) c.val = true := by decide +kernel
theorem loop (l a b c d : Int) (hl : isL l = true) (ha : isL a = true) (hc : isL c = true) (h1 : U a l = true) (h2 : U c l = true) (h3 : 64 * a + b < 64 * c + d) :
    ∀ (n k : Nat) (x : Int), 0 ≤ x → x + n = 8 → n < k → laws_FnEdgeOk.l0 k x l a b c d = some true := by
  intro n
  induction n with
  | zero =>
    intro k x h0 hx hk
    obtain ⟨k, rfl⟩ : ∃ m, k = m + 1 := ⟨k - 1, by omega⟩
    simp only [laws_FnEdgeOk.l0]
    have e1 : EOk l c d a b = false := by
      unfold EOk; rw [decide_eq_false (show ¬ 64 * c + d < 64 * a + b by omega)]; simp
    have e2 : EOk l a b a b = false := by
      unfold EOk; rw [decide_eq_false (show ¬ 64 * a + b < 64 * a + b by omega)]; simp
    have e3 : U (Jn a c) l = true := by
      obtain ⟨x, rfl⟩ := fin8 ha
      obtain ⟨y, rfl⟩ := fin8 hc
      obtain ⟨z, rfl⟩ := fin8 hl
      exact UJn8 x y z h1 h2
    rw [if_neg (by omega)]
    simp only [iE, iJn, iU, Option.bind_some, e1, e2, e3, Bool.false_eq_true, if_false]
  | succ n ih =>
    intro k x h0 hx hk
    obtain ⟨k, rfl⟩ : ∃ m, k = m + 1 := ⟨k - 1, by omega⟩
    simp only [laws_FnEdgeOk.l0]
    have e := ih k (x + 1) (by omega) (by omega) (by omega)
    rw [if_pos (by omega), w64 (x := x + 1) (by omega)]
    simp only [iU, Option.bind_some, e]
    by_cases u : U l x = true
    · have g1 : U a x = true ∧ U c x = true := by
        obtain ⟨p, rfl⟩ := fin8 ha
        obtain ⟨q, rfl⟩ := fin8 hc
        obtain ⟨z, rfl⟩ := fin8 hl
        obtain ⟨m, rfl⟩ := fin8 (show isL x = true by simp [isL]; omega)
        exact ⟨Utr8 p z m h1 u, Utr8 q z m h2 u⟩
      simp [g1.1, g1.2]
    · simp [u]
theorem FnEdgeOk : laws_FnEdgeOk.Pure := by
  intro l0 _ b0
  refine ⟨21, ?_⟩
  unfold laws_FnEdgeOk.f
  by_cases g0 : (l0.length : Int) > 1048576
  · rw [if_pos g0]
  rw [if_neg g0]
  obtain ⟨l, a, b, c, d, h⟩ := drawEdge 21 (by decide) l0 b0
  rw [h]
  simp only [Option.bind_some, iE, sE 21 (by decide), bne_self_eq_false, Bool.false_eq_true, if_false, laws_FnEdgeOk.j0, sE 20 (by decide)]
  by_cases e : EOk l a b c d = true
  · have e' := e
    simp only [EOk, Bool.and_eq_true, decide_eq_true_eq, nOk] at e'
    rw [e, if_neg (by simp)]
    exact loop l a b c d e'.1 e'.2.1.1 e'.2.2.1.1 e'.2.2.2.2.1 e'.2.2.2.2.2 e'.2.2.2.1 8 20 0 (by omega) (by omega) (by omega)
  · rw [Bool.not_eq_true] at e
    rw [e]; simp

end Go.Proofs.Ytomkkhkfenmdlaa.Pure
