/- The plain law behind FnLabelText: a label is read from its text, and what is read from a text has that text, whatever is drawn. -/
import Derived.Test.YtomkkhkfenmdlaaDoorQFnLabelTextOpen
namespace Go.Proofs.YtomkkhkfenmdlaaDoor.Pure
open Go.RowKit Go.Proofs.YtomkkhkfenmdlaaDoor.QFnLabelText Go.Proofs.YtomkkhkfenmdlaaDoorW.PrintWords Go.Proofs.YtomkkhkfenmdlaaDoorW.PrintLast
set_option linter.unusedSimpArgs false
set_option linter.unusedVariables false

theorem lab8 {a : Int} (h : 0 ≤ a ∧ a ≤ 7) : a = 0 ∨ a = 1 ∨ a = 2 ∨ a = 3 ∨ a = 4 ∨ a = 5 ∨ a = 6 ∨ a = 7 := by omega

def isL (a : Int) : Bool := decide (0 ≤ a ∧ a ≤ 7)
def U (a b : Int) : Bool := isL a && (isL b && (a.toNat &&& b.toNat == a.toNat))
def Jn (a b : Int) : Int := if isL a && isL b then ((a.toNat ||| b.toNat : Nat) : Int) else 0
def Mt (a b : Int) : Int := if isL a && isL b then ((a.toNat &&& b.toNat : Nat) : Int) else 0
def Hs (a i : Int) : Bool := isL a && (decide (0 ≤ i ∧ i < 3) && a.toNat.testBit i.toNat)
def Mn (a : Int) : Int := if isL a then ((Hs a 0).toNat + (Hs a 1).toNat + (Hs a 2).toNat : Nat) else 0
def Al (a : Int) : List Int := [0, 1, 2, 3, 4, 5, 6, 7].filter fun b => U b a
theorem fin8 {a : Int} (h : isL a = true) : ∃ x : Fin 8, a = (x.val : Int) := by
  simp [isL] at h
  obtain ⟨n, rfl⟩ := Int.eq_ofNat_of_zero_le h.1
  exact ⟨⟨n, by omega⟩, rfl⟩

theorem iIs (a : Int) : impl_LabelOk.f a = some (isL a) := by
  unfold impl_LabelOk.f isL
  by_cases h : 0 ≤ a
  · rw [if_pos h]; simp [h]
  · rw [if_neg h]; simp [h]

theorem sTx8 : ∀ a : Fin 8, spec_LabelText.f 10 (a.val : Int) = some (tx a.val) := by decide +kernel
theorem sTx (k : Nat) (hk : 10 ≤ k) (a : Int) : spec_LabelText.f k a = impl_LabelText.f a := by
  unfold impl_LabelText.f
  by_cases h : 0 ≤ a ∧ a ≤ 7
  · rw [if_pos h]
    obtain ⟨x, rfl⟩ := fin8 (show isL a = true by simp [isL]; omega)
    exact at_rounds (g := fun k => spec_LabelText.f k (x.val : Int)) (fun k => spec_LabelText.mono _ k) hk (sTx8 x)
  · rw [if_neg h]
    unfold spec_LabelText.f spec_LabelOk.f
    by_cases h0 : a ≥ 0
    · rw [if_pos h0, decide_eq_false (by omega)]; rfl
    · rw [if_neg h0]; rfl

theorem w64 {x : Int} (h : -9223372036854775808 ≤ x ∧ x ≤ 9223372036854775807) : wrap64 x = x := by unfold wrap64; omega
theorem rdB {b : List Int} (hb : ∀ x ∈ b, 0 ≤ x ∧ x ≤ 255) (i : Int) : 0 ≤ rd b i ∧ rd b i ≤ 255 := by
  unfold rd
  rw [List.getD_eq_getElem?_getD]
  cases h : b[i.toNat]? with
  | none => simp
  | some v => exact hb v (List.mem_of_getElem? h)
theorem u8B {l : List Int} (h : ∀ x ∈ l, (Lit.int .u8 x).wf = true) : ∀ x ∈ l, 0 ≤ x ∧ x ≤ 255 := fun x hx => by
  have := h x hx
  simp [Lit.wf, IntKind.min, IntKind.max, IntKind.signed, IntKind.bits] at this
  omega

/-- The label of a text, from a place of the table on. -/
def Rd (s : ByteArray) : Nat → Int → Int × Bool
  | 0, _ => (0, false)
  | d + 1, i => if (tx i).toList = s.toList then (i, true) else Rd s d (i + 1)
theorem iRd_l0 (s : ByteArray) : ∀ (d k : Nat) (i : Int), 0 ≤ i → i + d = 8 → d < k → impl_LabelRead.l0 k s i = some (Rd s d i) := by
  intro d
  induction d with
  | zero =>
    intro k i h0 hd hk
    obtain ⟨k, rfl⟩ : ∃ m, k = m + 1 := ⟨k - 1, by omega⟩
    simp only [impl_LabelRead.l0, Rd]; rw [if_neg (by omega)]
  | succ d ih =>
    intro k i h0 hd hk
    obtain ⟨k, rfl⟩ : ∃ m, k = m + 1 := ⟨k - 1, by omega⟩
    simp only [impl_LabelRead.l0, Rd]; rw [if_pos (by omega), if_pos h0, w64 (x := i + 1) (by omega), ih k (i + 1) (by omega) (by omega) (by omega)]
    split <;> rfl
theorem sRd_l0 (s : ByteArray) : ∀ (d k : Nat) (i : Int), 0 ≤ i → i + d = 8 → d + 10 < k → spec_LabelRead.l0 k s i = some (Rd s d i) := by
  intro d
  induction d with
  | zero =>
    intro k i h0 hd hk
    obtain ⟨k, rfl⟩ : ∃ m, k = m + 1 := ⟨k - 1, by omega⟩
    simp only [spec_LabelRead.l0, Rd]; rw [if_neg (by omega)]
  | succ d ih =>
    intro k i h0 hd hk
    obtain ⟨k, rfl⟩ : ∃ m, k = m + 1 := ⟨k - 1, by omega⟩
    simp only [spec_LabelRead.l0, Rd]; rw [if_pos (by omega), sTx k (by omega), w64 (x := i + 1) (by omega), ih k (i + 1) (by omega) (by omega) (by omega)]
    unfold impl_LabelText.f
    rw [if_pos (by omega)]
    simp only [Option.bind_some]
    split <;> rfl
theorem iRd (s : ByteArray) (k : Nat) (hk : 20 ≤ k) : impl_LabelRead.f k s = some (Rd s 8 0) := iRd_l0 s 8 k 0 (by omega) (by omega) (by omega)
theorem sRd (s : ByteArray) (k : Nat) (hk : 20 ≤ k) : spec_LabelRead.f k s = some (Rd s 8 0) := sRd_l0 s 8 k 0 (by omega) (by omega) (by omega)
theorem Rd_true (s : ByteArray) : ∀ (d : Nat) (i : Int), 0 ≤ i → i + d = 8 → (Rd s d i).2 = true → 0 ≤ (Rd s d i).1 ∧ (Rd s d i).1 ≤ 7 ∧ (tx (Rd s d i).1).toList = s.toList
  | 0, i, h0, hd, h => by simp [Rd] at h
  | d + 1, i, h0, hd, h => by
    unfold Rd at h ⊢
    split
    · rename_i c; exact ⟨h0, by omega, c⟩
    · rename_i c; rw [if_neg c] at h; exact Rd_true s d (i + 1) (by omega) (by omega) h

theorem xor_nn {x y : Int} (hx : 0 ≤ x) (hx1 : x < 4611686018427387904) (hy : 0 ≤ y) (hy1 : y < 4611686018427387904) : 0 ≤ Go.bits .xor .i64 x y := by
  obtain ⟨a, rfl⟩ := Int.eq_ofNat_of_zero_le hx
  obtain ⟨b, rfl⟩ := Int.eq_ofNat_of_zero_le hy
  have ha : a < 2 ^ 62 := by omega
  have hb : b < 2 ^ 62 := by omega
  have hab : a ^^^ b < 2 ^ 62 := Nat.xor_lt_two_pow ha hb
  have ea : a % 2 ^ IntKind.i64.bits = a := Nat.mod_eq_of_lt (by simp [IntKind.bits]; omega)
  have eb : b % 2 ^ IntKind.i64.bits = b := Nat.mod_eq_of_lt (by simp [IntKind.bits]; omega)
  simp only [Go.bits, BitVec.ofInt_natCast, BitVec.toNat_xor, BitVec.toNat_ofNat, ea, eb]
  rw [IntKind.wrap_i64]
  omega

theorem pick_ok (k : Nat) (hk : 1 ≤ k) (b : List Int) (p n : Int) (hb : ∀ x ∈ b, 0 ≤ x ∧ x ≤ 255) (hp0 : 0 ≤ p) (hp : p ≤ 1000000) (hn : 1 ≤ n) :
    ∃ v, spec_l9Rd_pick.f k b p n = some (v, p + 1) ∧ 0 ≤ v ∧ v < n := by
  obtain ⟨k, rfl⟩ : ∃ m, k = m + 1 := ⟨k - 1, by omega⟩
  have w1 : wrap64 (p + 1) = p + 1 := w64 (by omega)
  have w2 : wrap64 (p + 1 - 1) = p := by rw [Int.add_sub_cancel]; exact w64 (by omega)
  unfold spec_l9Rd_pick.f
  rw [if_neg (by omega), w1]
  by_cases he : (b.length : Int) = 0
  · rw [show ((b.length : Int) == 0) = true by simpa using he]
    exact ⟨0, by simp [spec_l9Rd_pick.j0], by omega, by omega⟩
  · rw [show ((b.length : Int) == 0) = false by simpa using he]
    simp only [spec_l9Rd_pick.j0, w2]
    rw [if_neg (by decide)]
    by_cases h1 : p < (b.length : Int)
    · rw [if_pos h1, if_pos hp0, if_neg (by omega), w64 (x := rd b p) (by have := rdB hb p; omega)]
      exact ⟨_, rfl, Int.tmod_nonneg _ (rdB hb p).1, Int.tmod_lt_of_pos _ (by omega)⟩
    · have hl : (0 : Int) < b.length := by omega
      rw [if_neg h1, if_neg he]
      have m0 : 0 ≤ Int.tmod p b.length := Int.tmod_nonneg _ hp0
      have m1 : Int.tmod p b.length < b.length := Int.tmod_lt_of_pos _ hl
      have w3 : wrap64 (wrap64 (p * 7) + 3) = p * 7 + 3 := by rw [w64 (x := p * 7) (by omega)]; exact w64 (by omega)
      have m2 : 0 ≤ Int.tmod (p * 7 + 3) b.length := Int.tmod_nonneg _ (by omega)
      have m3 : Int.tmod (p * 7 + 3) b.length < b.length := Int.tmod_lt_of_pos _ hl
      rw [if_pos m0, if_pos m1, w3, if_pos m2, if_pos m3, if_neg (by omega)]
      have r1 := rdB hb (Int.tmod p b.length)
      have r2 := rdB hb (Int.tmod (p * 7 + 3) b.length)
      have d0 : 0 ≤ Int.tdiv p b.length := Int.tdiv_nonneg hp0 (by omega)
      have d1 : Int.tdiv p b.length ≤ p := Int.tdiv_le_self _ hp0
      generalize rd b (Int.tmod p b.length) = R1 at *
      generalize rd b (Int.tmod (p * 7 + 3) b.length) = R2 at *
      generalize Int.tdiv p b.length = D at *
      rw [w64 (x := R1) (by omega), w64 (x := R2) (by omega), w64 (x := D) (by omega), w64 (x := R1 * 131) (by omega), w64 (x := R2 * 1117) (by omega), w64 (x := p * 29) (by omega), w64 (x := D * 53) (by omega), w64 (x := R1 * 131 + R2 * 1117) (by omega),
        w64 (x := R1 * 131 + R2 * 1117 + p * 29) (by omega), w64 (x := R1 * 131 + R2 * 1117 + p * 29 + D * 53) (by omega)]
      have x0 : 0 ≤ R1 * 131 + R2 * 1117 + p * 29 + D * 53 := by omega
      have x1 : R1 * 131 + R2 * 1117 + p * 29 + D * 53 < 4611686018427387904 := by omega
      generalize R1 * 131 + R2 * 1117 + p * 29 + D * 53 = X at *
      have y0 : 0 ≤ Int.tdiv X 64 := Int.tdiv_nonneg x0 (by decide)
      have y1 : Int.tdiv X 64 ≤ X := Int.tdiv_le_self _ x0
      rw [w64 (x := Int.tdiv X 64) (by omega)]
      exact ⟨_, rfl, Int.tmod_nonneg _ (xor_nn x0 x1 y0 (by omega)), Int.tmod_lt_of_pos _ (by omega)⟩
theorem open_ok (l : List Int) (hl : ∀ x ∈ l, 0 ≤ x ∧ x ≤ 255) : ∃ b, spec_l9Open.f l = some (b, 0) ∧ ∀ x ∈ b, 0 ≤ x ∧ x ≤ 255 := by
  unfold spec_l9Open.f
  by_cases h : (l.length : Int) > 2000
  · rw [if_pos h, if_pos (by omega)]
    exact ⟨_, rfl, fun x hx => hl x (List.mem_of_mem_take hx)⟩
  · rw [if_neg h]; exact ⟨_, rfl, hl⟩

theorem num_ok (k : Nat) (hk : 1 ≤ k) (b : List Int) (p : Int) (l : List Int) (hb : ∀ x ∈ b, 0 ≤ x ∧ x ≤ 255) (hp0 : 0 ≤ p) (hp : p ≤ 1000000) (hn : 1 ≤ l.length) :
    ∃ v, spec_l9Rd_num.f k b p l = some (v, p + 1) ∧ v ∈ l := by
  obtain ⟨v, hv, v0, v1⟩ := pick_ok k hk b p (l.length : Int) hb hp0 hp (by omega)
  unfold spec_l9Rd_num.f
  rw [hv]
  simp only [Option.bind_some]
  rw [if_pos v0, if_pos v1]
  refine ⟨_, rfl, ?_⟩
  unfold rd
  rw [List.getD_eq_getElem?_getD, List.getElem?_eq_getElem (by omega)]
  exact List.getElem_mem _

theorem l1Label_ok (k : Nat) (hk : 1 ≤ k) (b : List Int) (p : Int) (hb : ∀ x ∈ b, 0 ≤ x ∧ x ≤ 255) (hp0 : 0 ≤ p) (hp : p ≤ 900000) :
    ∃ v, spec_l1Label.f k b p = some (v, p + 2) ∧ -9223372036854775808 ≤ v ∧ v ≤ 9223372036854775807 := by
  obtain ⟨v, hv, v0, v1⟩ := pick_ok k hk b p 20 hb hp0 (by omega) (by omega)
  unfold spec_l1Label.f
  rw [hv]
  simp only [Option.bind_some]
  by_cases h : v = 0
  · rw [if_pos h]
    obtain ⟨u, hu, um⟩ := num_ok k hk b (p + 1) [(-1), 8, 9223372036854775807, (-9223372036854775808)] hb (by omega) (by omega) (by decide)
    rw [hu]
    refine ⟨u, by simp; omega, ?_⟩
    simp at um; omega
  · rw [if_neg h]
    obtain ⟨u, hu, u0, u1⟩ := pick_ok k hk b (p + 1) 8 hb (by omega) (by omega) (by omega)
    rw [hu]
    exact ⟨u, by simp; omega, by omega, by omega⟩

theorem Rd_tx : ∀ a : Fin 8, Rd (tx a.val) 8 0 = ((a.val : Int), true) := by decide +kernel
theorem Rd_none : Rd ⟨#[]⟩ 8 0 = (0, false) := by decide +kernel
theorem fin2 (k : Nat) (t : ByteArray) :
    (if (Rd t 8 0).2 = true then (impl_LabelText.f (Rd t 8 0).1).bind fun u => some (u.toList == t.toList) else some true) = some true := by
  by_cases h : (Rd t 8 0).2 = true
  · rw [if_pos h]
    obtain ⟨h0, h1, h2⟩ := Rd_true t 8 0 (by omega) (by omega) h
    unfold impl_LabelText.f
    rw [if_pos ⟨h0, h1⟩]
    simp [h2]
  · rw [if_neg h]
theorem of_ok (k : Nat) (hk : 1 ≤ k) (b : List Int) (p : Int) (l : List ByteArray) (hb : ∀ x ∈ b, 0 ≤ x ∧ x ≤ 255) (hp0 : 0 ≤ p) (hp : p ≤ 1000000) (hn : 1 ≤ l.length) : ∃ v, spec_l9Rd_of.f k b p l = some (v, p + 1) := by
  obtain ⟨v, hv, v0, v1⟩ := pick_ok k hk b p (l.length : Int) hb hp0 hp (by omega)
  unfold spec_l9Rd_of.f
  rw [hv]
  simp only [Option.bind_some]
  rw [if_pos v0, if_pos v1]
  exact ⟨_, rfl⟩
theorem FnLabelText : laws_FnLabelText.Pure := by
  intro l0 l1 _ b0 _ b1
  refine ⟨51, ?_⟩
  unfold laws_FnLabelText.f
  by_cases g0 : (l0.length : Int) > 1048576
  · rw [if_pos g0]; simp [laws_FnLabelText.j0]
  rw [if_neg g0]
  by_cases g1 : (l1.length : Int) > 1048576
  · simp [laws_FnLabelText.j0, g1]
  obtain ⟨b, hb, hB⟩ := open_ok l0 (u8B b0)
  obtain ⟨a, ha, _⟩ := l1Label_ok 50 (by decide) b 0 hB (by omega) (by omega)
  obtain ⟨c, hc, hC⟩ := open_ok l1 (u8B b1)
  have h0 : spec_DrawLabelText.f 50 l0 = some a := by unfold spec_DrawLabelText.f; rw [hb]; simp only [Option.bind_some]; rw [ha]; rfl
  obtain ⟨t, h1⟩ : ∃ t, spec_DrawLabelRead.f 50 l1 = some t := by
    unfold spec_DrawLabelRead.f
    rw [hc]
    simp only [Option.bind_some]
    obtain ⟨t, ht⟩ := of_ok 50 (by decide) c 0 [(⟨#[45]⟩ : ByteArray), ⟨#[97]⟩, ⟨#[98]⟩, ⟨#[99]⟩, ⟨#[97, 98]⟩, ⟨#[97, 99]⟩, ⟨#[98, 99]⟩, ⟨#[97, 98, 99]⟩, ⟨#[]⟩, ⟨#[98, 97]⟩, ⟨#[100]⟩, ⟨#[97, 97]⟩, ⟨#[65]⟩, ⟨#[97, 45]⟩] hC (by omega) (by omega) (by decide)
    rw [ht]
    exact ⟨_, rfl⟩
  rw [decide_eq_false g1]
  have f := fin2 50 t
  simp only [laws_FnLabelText.j0, Bool.false_eq_true, if_false, h0, h1, Option.bind_some, iRd t 50 (by decide), sRd t 50 (by decide), sTx 50 (by decide), iIs]
  by_cases h : 0 ≤ a ∧ a ≤ 7
  · have ha2 : isL a = true := by simp [isL]; omega
    obtain ⟨x, rfl⟩ := fin8 ha2
    have e : impl_LabelText.f (x.val : Int) = some (tx x.val) := by unfold impl_LabelText.f; rw [if_pos h]
    simp only [e, Option.bind_some, iRd (tx x.val) 50 (by decide), Rd_tx x, ha2, if_true, beq_self_eq_true]
    exact f
  · have ha2 : isL a = false := by simp [isL]; omega
    have e : impl_LabelText.f a = some ⟨#[]⟩ := by unfold impl_LabelText.f; rw [if_neg h]
    simp only [e, Option.bind_some, iRd ⟨#[]⟩ 50 (by decide), Rd_none, ha2, if_true, beq_self_eq_true, Bool.false_eq_true, if_false]
    exact f

end Go.Proofs.YtomkkhkfenmdlaaDoor.Pure
