/- The plain law behind FnPackNum: numbers are read back from their bytes, whatever is behind them, and what is read has those bytes. -/
import Derived.Test.YtomkkhkfenmdlaaQFnPackNumOpen
namespace Go.Proofs.Ytomkkhkfenmdlaa.Pure
open Go.RowKit Go.Proofs.Ytomkkhkfenmdlaa.QFnPackNum Go.Proofs.YtomkkhkfenmdlaaW.PrintWords Go.Proofs.YtomkkhkfenmdlaaW.PrintLast
set_option linter.unusedSimpArgs false
set_option linter.unusedVariables false

theorem w64 {x : Int} (h : -9223372036854775808 ≤ x ∧ x ≤ 9223372036854775807) : wrap64 x = x := by unfold wrap64; omega
theorem rdB {b : List Int} (hb : ∀ x ∈ b, 0 ≤ x ∧ x ≤ 255) (i : Int) : 0 ≤ rd b i ∧ rd b i ≤ 255 := by
  unfold rd
  rw [List.getD_eq_getElem?_getD]
  cases h : b[i.toNat]? with
  | none => simp
  | some v => exact hb v (List.mem_of_getElem? h)
theorem u8B {l : List Int} (h : ∀ x ∈ l, (Lit.int .u8 x).wf = true) : ∀ x ∈ l, 0 ≤ x ∧ x ≤ 255 := fun x hx => by
  have := h x hx
  simp [Lit.wf, IntKind.min, IntKind.max, IntKind.signed, IntKind.bits] at this
  omega

theorem bt_ext {s t : ByteArray} (h : s.size = t.size) (hb : ∀ i : Nat, i < s.size → bt s i = bt t i) : s = t := by
  apply ByteArray.ext
  apply Array.ext
  · exact h
  · intro i h1 h2
    have := hb i h1
    unfold bt at this
    rw [dif_pos (by simpa using h1), dif_pos (by simpa using h2)] at this
    have e := Int.ofNat.inj this
    exact UInt8.toNat_inj.1 e
theorem bt_appL {s t : ByteArray} {i : Int} (h : i.toNat < s.size) : bt (s ++ t) i = bt s i := by
  unfold bt
  rw [dif_pos (by rw [ByteArray.size_append]; omega), dif_pos h, ByteArray.getElem_append_left h]
theorem bt_appR {s t : ByteArray} {i : Int} (h0 : (s.size : Int) ≤ i) : bt (s ++ t) i = bt t (i - s.size) := by
  unfold bt
  by_cases h : i.toNat < (s ++ t).size
  · have h' := h; rw [ByteArray.size_append] at h'
    rw [dif_pos h, dif_pos (by omega), ByteArray.getElem_append_right (by omega)]
    congr 2
    simp only [show i.toNat - s.size = (i - (s.size : Int)).toNat by omega]
  · have h' := h; rw [ByteArray.size_append] at h'
    rw [dif_neg h, dif_neg (by omega)]
theorem bt_son {l : List Int} (hl : ∀ x ∈ l, 0 ≤ x ∧ x ≤ 255) {i : Int} (h : i.toNat < l.length) : bt (strOfNums l) i = rd l i := by
  have hs : i.toNat < (strOfNums l).size := by simpa [strOfNums, ByteArray.size] using h
  unfold bt rd
  rw [dif_pos hs, List.getD_eq_getElem?_getD, List.getElem?_eq_getElem h]
  have := hl _ (List.getElem_mem h)
  simp [strOfNums, ByteArray.getElem_eq_getElem_data]
  omega
theorem bt_cut {s : ByteArray} {i j : Nat} {m : Nat} (h : i + m < j) (hj : j ≤ s.size) : bt (s.extract i j) m = bt s ((i + m : Nat) : Int) := by
  unfold bt
  rw [dif_pos (by rw [ByteArray.size_extract]; omega), dif_pos (by omega), ByteArray.getElem_extract]
  congr 2

/-- The bytes of a number. -/
def Pk (n : Int) : List Int := if n < 0 ∨ n > 16383 then [] else if n < 128 then [n] else [128 + n / 128, n % 128]
theorem Pk_len (n : Int) : (Pk n).length ≤ 2 := by
  unfold Pk
  split
  · simp
  · split <;> simp
theorem iApp (k : Nat) (hk : 1 ≤ k) (l : List Int) (hl : l.length ≤ 1000000) (n : Int) : impl_appendNum.f k l n = some (l ++ Pk n) := by
  obtain ⟨k, rfl⟩ : ∃ m, k = m + 1 := ⟨k - 1, by omega⟩
  unfold impl_appendNum.f Pk
  by_cases h0 : n < 0
  · rw [if_pos h0, if_pos (.inl h0)]; simp [impl_appendNum.j0]
  · rw [if_neg h0]
    by_cases h1 : n > 16383
    · rw [if_pos (.inr h1)]; simp [impl_appendNum.j0, h1]
    · rw [if_neg (by omega)]
      by_cases h2 : n < 128
      · simp only [impl_appendNum.j0, decide_eq_true_eq]
        rw [if_neg h1, if_pos h2, if_pos h2, if_pos (by omega), Int.emod_eq_of_lt (show 0 ≤ n by omega) (show n < 256 by omega)]
      · have d1 : Int.tdiv n 128 = n / 128 := Int.tdiv_eq_ediv_of_nonneg (by omega)
        have d2 : Int.tmod n 128 = n % 128 := Int.tmod_eq_emod_of_nonneg (by omega)
        simp only [impl_appendNum.j0, d1, d2, w64 (x := n / 128) (by omega), w64 (x := 128 + n / 128) (by omega), decide_eq_true_eq]
        rw [if_neg h1, if_neg h2, if_neg h2]
        simp only [Option.bind_some]
        rw [if_pos (by simp; omega), Int.emod_eq_of_lt (show 0 ≤ 128 + n / 128 by omega) (show 128 + n / 128 < 256 by omega), Int.emod_eq_of_lt (show 0 ≤ n % 128 by omega) (show n % 128 < 256 by omega)]
theorem sPk (k : Nat) (hk : 1 ≤ k) (n : Int) : spec_PackNum.f k n = some (strOfNums (Pk n)) := by
  obtain ⟨k, rfl⟩ : ∃ m, k = m + 1 := ⟨k - 1, by omega⟩
  unfold spec_PackNum.f Pk
  by_cases h0 : n < 0
  · rw [if_pos h0, if_pos (.inl h0)]; simp [spec_PackNum.j0, strOfNums]
  · rw [if_neg h0]
    by_cases h1 : n > 16383
    · rw [if_pos (.inr h1)]; simp [spec_PackNum.j0, h1, strOfNums]
    · rw [if_neg (by omega)]
      by_cases h2 : n < 128
      · simp [spec_PackNum.j0, h1, h2, Int.emod_eq_of_lt (show 0 ≤ n by omega) (show n < 256 by omega)]
      · have d1 : Int.tdiv n 128 = n / 128 := Int.tdiv_eq_ediv_of_nonneg (by omega)
        have d2 : Int.tmod n 128 = n % 128 := Int.tmod_eq_emod_of_nonneg (by omega)
        simp only [spec_PackNum.j0, d1, d2, w64 (x := n / 128) (by omega), w64 (x := 128 + n / 128) (by omega)]
        simp [h1, h2, Int.emod_eq_of_lt (show 0 ≤ 128 + n / 128 by omega) (show 128 + n / 128 < 256 by omega), Int.emod_eq_of_lt (show 0 ≤ n % 128 by omega) (show n % 128 < 256 by omega)]
theorem son_app (a b : List Int) : strOfNums (a ++ b) = strOfNums a ++ strOfNums b := by
  simp [strOfNums, ByteArray.ext_iff]
theorem son_size (a : List Int) : (strOfNums a).size = a.length := by simp [strOfNums, ByteArray.size]
/-- The gaps' bytes of a list, from a number on. -/
def Gp : Int → List Int → List Int
  | _, [] => []
  | last, x :: xs => Pk (x - last - 1) ++ Gp x xs
/-- It ascends from a number on, up to the greatest. -/
def Up : Int → List Int → Bool
  | _, [] => true
  | last, x :: xs => decide (last < x) && (decide (x ≤ 16383) && Up x xs)
theorem Up_cons {last x : Int} {xs : List Int} : Up last (x :: xs) = true ↔ last < x ∧ x ≤ 16383 ∧ Up x xs = true := by simp [Up]
theorem Gp_len : ∀ (last : Int) (l : List Int), (Gp last l).length ≤ 2 * l.length
  | _, [] => by simp [Gp]
  | last, x :: xs => by have := Pk_len (x - last - 1); have := Gp_len x xs; simp [Gp]; omega
/-- The bytes of a row. -/
def Rw (l : List Int) : List Int := if l.length ≤ 127 ∧ Up (-1) l = true then Pk l.length ++ Gp (-1) l else []
theorem Rw_len (l : List Int) : (Rw l).length ≤ 256 := by
  unfold Rw
  split
  · rename_i h; have := Pk_len l.length; have := Gp_len (-1) l; simp; omega
  · simp
theorem tloop (s : ByteArray) : ∀ (d i : Nat) (r : List UInt8), s.size - i = d → (ByteArray.toList.loop s i r).length = r.length + d := by
  intro d
  induction d with
  | zero => intro i r h; unfold ByteArray.toList.loop; rw [if_neg (by omega)]; simp
  | succ d ih => intro i r h; unfold ByteArray.toList.loop; rw [if_pos (by omega), ih (i + 1) _ (by omega)]; simp; omega
theorem tlen (s : ByteArray) : s.toList.length = s.size := by
  have := tloop s s.size 0 [] (by omega)
  simpa [ByteArray.toList] using this
theorem rd_at {xs : List Int} {i : Nat} (h : i < xs.length) : rd xs (i : Int) = xs[i] := by
  unfold rd; rw [Int.toNat_natCast, List.getD_eq_getElem?_getD, List.getElem?_eq_getElem h]; rfl

/-- The number whose bytes stand somewhere. -/
def NA (s : ByteArray) (i : Int) : Int × Int × Bool :=
  if i < 0 ∨ i ≥ s.size then (0, 0, false) else if bt s i < 128 then (bt s i, i + 1, true) else if bt s i = 128 ∨ i + 1 ≥ s.size then (0, 0, false) else
  if bt s (i + 1) ≥ 128 then (0, 0, false) else ((bt s i - 128) * 128 + bt s (i + 1), i + 2, true)
theorem NA_bound {s : ByteArray} {i n j : Int} {b : Bool} (h : NA s i = (n, j, b)) : 0 ≤ n ∧ n ≤ 16383 ∧ (b = true → 0 ≤ i ∧ i < j ∧ j ≤ s.size) ∧ (b = false → n = 0 ∧ j = 0) := by
  have h0 := bt_range s i
  have h1 := bt_range s (i + 1)
  unfold NA at h
  split at h
  · simp only [Prod.mk.injEq] at h; obtain ⟨rfl, rfl, rfl⟩ := h; simp
  · split at h
    · simp only [Prod.mk.injEq] at h; obtain ⟨rfl, rfl, rfl⟩ := h; refine ⟨by omega, by omega, fun _ => by omega, fun h => by cases h⟩
    · split at h
      · simp only [Prod.mk.injEq] at h; obtain ⟨rfl, rfl, rfl⟩ := h; simp
      · split at h
        · simp only [Prod.mk.injEq] at h; obtain ⟨rfl, rfl, rfl⟩ := h; simp
        · simp only [Prod.mk.injEq] at h; obtain ⟨rfl, rfl, rfl⟩ := h; refine ⟨by omega, by omega, fun _ => by omega, fun h => by cases h⟩

theorem Pk_byte (n : Int) : ∀ x ∈ Pk n, 0 ≤ x ∧ x ≤ 255 := by
  intro x hx
  unfold Pk at hx
  split at hx
  · cases hx
  · split at hx
    · simp at hx; omega
    · simp at hx; omega
/-- A number is read from its bytes, wherever these stand. -/
theorem NA_of {s : ByteArray} {i : Int} {n : Int} (h0 : 0 ≤ n) (h1 : n ≤ 16383) (hi : 0 ≤ i) (hs : i + (Pk n).length ≤ s.size) (hb : ∀ j : Nat, j < (Pk n).length → bt s (i + j) = rd (Pk n) j) :
    NA s i = (n, i + (Pk n).length, true) := by
  unfold Pk at hb hs ⊢
  rw [if_neg (by omega)] at hb hs ⊢
  by_cases c : n < 128
  · rw [if_pos c] at hb hs ⊢
    have b0 := hb 0 (by simp)
    simp [rd] at b0 hs
    unfold NA
    rw [if_neg (by omega), b0, if_pos c]
    simp
  · rw [if_neg c] at hb hs ⊢
    have b0 := hb 0 (by simp)
    have b1 := hb 1 (by simp)
    simp [rd] at b0 b1 hs
    unfold NA
    rw [if_neg (by omega), b0, b1, if_neg (by omega), if_neg (by omega), if_neg (by omega)]
    simp
    omega
/-- What is read has those bytes. -/
theorem NA_bytes {s : ByteArray} {i n j : Int} (h : NA s i = (n, j, true)) : j = i + (Pk n).length ∧ ∀ m : Nat, m < (Pk n).length → bt s (i + m) = rd (Pk n) m := by
  have r0 := bt_range s i
  have r1 := bt_range s (i + 1)
  unfold NA at h
  split at h
  · simp at h
  · split at h
    · simp only [Prod.mk.injEq] at h; obtain ⟨rfl, rfl, _⟩ := h
      rename_i _ c _
      unfold Pk
      rw [if_neg (by omega), if_pos c]
      refine ⟨by simp, fun m hm => ?_⟩
      simp at hm; subst hm; simp [rd]
    · split at h
      · simp at h
      · split at h
        · simp at h
        · simp only [Prod.mk.injEq] at h; obtain ⟨rfl, rfl, _⟩ := h
          unfold Pk
          rw [if_neg (by omega), if_neg (by omega)]
          refine ⟨by simp, fun m hm => ?_⟩
          simp at hm
          rcases (show m = 0 ∨ m = 1 by omega) with rfl | rfl
          · simp [rd]; omega
          · simp [rd]; omega
theorem bt_sonT {l : List Int} (hl : ∀ x ∈ l, 0 ≤ x ∧ x ≤ 255) (t : ByteArray) {j : Nat} (h : j < l.length) : bt (strOfNums l ++ t) j = rd l j := by
  rw [bt_appL (by rw [son_size]; omega), bt_son hl (by omega)]
theorem cut_eq {s : ByteArray} {l : List Int} (hl : ∀ x ∈ l, 0 ≤ x ∧ x ≤ 255) {i j : Int} (h0 : 0 ≤ i) (hj : j = i + l.length) (hs : j ≤ s.size) (hb : ∀ m : Nat, m < l.length → bt s (i + m) = rd l m) : strOfNums l = s.extract i.toNat j.toNat := by
  apply bt_ext
  · rw [son_size, ByteArray.size_extract]; omega
  · intro m hm
    rw [son_size] at hm
    rw [bt_son hl (by omega), bt_cut (by omega) (by omega), ← hb m hm]
    congr 1; omega

theorem xor_nn {x y : Int} (hx : 0 ≤ x) (hx1 : x < 4611686018427387904) (hy : 0 ≤ y) (hy1 : y < 4611686018427387904) : 0 ≤ Go.bits .xor .i64 x y := by
  obtain ⟨a, rfl⟩ := Int.eq_ofNat_of_zero_le hx
  obtain ⟨b, rfl⟩ := Int.eq_ofNat_of_zero_le hy
  have ha : a < 2 ^ 62 := by omega
  have hb : b < 2 ^ 62 := by omega
  have hab : a ^^^ b < 2 ^ 62 := Nat.xor_lt_two_pow ha hb
  have ea : a % 2 ^ IntKind.i64.bits = a := Nat.mod_eq_of_lt (by simp [IntKind.bits]; omega)
  have eb : b % 2 ^ IntKind.i64.bits = b := Nat.mod_eq_of_lt (by simp [IntKind.bits]; omega)
  simp only [Go.bits, BitVec.ofInt_natCast, BitVec.toNat_xor, BitVec.toNat_ofNat, ea, eb]
  rw [IntKind.wrap_i64]
  omega

theorem pick_ok (k : Nat) (hk : 1 ≤ k) (b : List Int) (p n : Int) (hb : ∀ x ∈ b, 0 ≤ x ∧ x ≤ 255) (hp0 : 0 ≤ p) (hp : p ≤ 1000000) (hn : 1 ≤ n) :
    ∃ v, spec_l9Rd_pick.f k b p n = some (v, p + 1) ∧ 0 ≤ v ∧ v < n := by
  obtain ⟨k, rfl⟩ : ∃ m, k = m + 1 := ⟨k - 1, by omega⟩
  have w1 : wrap64 (p + 1) = p + 1 := w64 (by omega)
  have w2 : wrap64 (p + 1 - 1) = p := by rw [Int.add_sub_cancel]; exact w64 (by omega)
  unfold spec_l9Rd_pick.f
  rw [if_neg (by omega), w1]
  by_cases he : (b.length : Int) = 0
  · rw [show ((b.length : Int) == 0) = true by simpa using he]
    exact ⟨0, by simp [spec_l9Rd_pick.j0], by omega, by omega⟩
  · rw [show ((b.length : Int) == 0) = false by simpa using he]
    simp only [spec_l9Rd_pick.j0, w2]
    rw [if_neg (by decide)]
    by_cases h1 : p < (b.length : Int)
    · rw [if_pos h1, if_pos hp0, if_neg (by omega), w64 (x := rd b p) (by have := rdB hb p; omega)]
      exact ⟨_, rfl, Int.tmod_nonneg _ (rdB hb p).1, Int.tmod_lt_of_pos _ (by omega)⟩
    · have hl : (0 : Int) < b.length := by omega
      rw [if_neg h1, if_neg he]
      have m0 : 0 ≤ Int.tmod p b.length := Int.tmod_nonneg _ hp0
      have m1 : Int.tmod p b.length < b.length := Int.tmod_lt_of_pos _ hl
      have w3 : wrap64 (wrap64 (p * 7) + 3) = p * 7 + 3 := by rw [w64 (x := p * 7) (by omega)]; exact w64 (by omega)
      have m2 : 0 ≤ Int.tmod (p * 7 + 3) b.length := Int.tmod_nonneg _ (by omega)
      have m3 : Int.tmod (p * 7 + 3) b.length < b.length := Int.tmod_lt_of_pos _ hl
      rw [if_pos m0, if_pos m1, w3, if_pos m2, if_pos m3, if_neg (by omega)]
      have r1 := rdB hb (Int.tmod p b.length)
      have r2 := rdB hb (Int.tmod (p * 7 + 3) b.length)
      have d0 : 0 ≤ Int.tdiv p b.length := Int.tdiv_nonneg hp0 (by omega)
      have d1 : Int.tdiv p b.length ≤ p := Int.tdiv_le_self _ hp0
      generalize rd b (Int.tmod p b.length) = R1 at *
      generalize rd b (Int.tmod (p * 7 + 3) b.length) = R2 at *
      generalize Int.tdiv p b.length = D at *
      rw [w64 (x := R1) (by omega), w64 (x := R2) (by omega), w64 (x := D) (by omega), w64 (x := R1 * 131) (by omega), w64 (x := R2 * 1117) (by omega), w64 (x := p * 29) (by omega), w64 (x := D * 53) (by omega), w64 (x := R1 * 131 + R2 * 1117) (by omega),
        w64 (x := R1 * 131 + R2 * 1117 + p * 29) (by omega), w64 (x := R1 * 131 + R2 * 1117 + p * 29 + D * 53) (by omega)]
      have x0 : 0 ≤ R1 * 131 + R2 * 1117 + p * 29 + D * 53 := by omega
      have x1 : R1 * 131 + R2 * 1117 + p * 29 + D * 53 < 4611686018427387904 := by omega
      generalize R1 * 131 + R2 * 1117 + p * 29 + D * 53 = X at *
      have y0 : 0 ≤ Int.tdiv X 64 := Int.tdiv_nonneg x0 (by decide)
      have y1 : Int.tdiv X 64 ≤ X := Int.tdiv_le_self _ x0
      rw [w64 (x := Int.tdiv X 64) (by omega)]
      exact ⟨_, rfl, Int.tmod_nonneg _ (xor_nn x0 x1 y0 (by omega)), Int.tmod_lt_of_pos _ (by omega)⟩
theorem open_ok (l : List Int) (hl : ∀ x ∈ l, 0 ≤ x ∧ x ≤ 255) : ∃ b, spec_l9Open.f l = some (b, 0) ∧ ∀ x ∈ b, 0 ≤ x ∧ x ≤ 255 := by
  unfold spec_l9Open.f
  by_cases h : (l.length : Int) > 2000
  · rw [if_pos h, if_pos (by omega)]
    exact ⟨_, rfl, fun x hx => hl x (List.mem_of_mem_take hx)⟩
  · rw [if_neg h]; exact ⟨_, rfl, hl⟩

theorem num_ok (k : Nat) (hk : 1 ≤ k) (b : List Int) (p : Int) (l : List Int) (hb : ∀ x ∈ b, 0 ≤ x ∧ x ≤ 255) (hp0 : 0 ≤ p) (hp : p ≤ 1000000) (hn : 1 ≤ l.length) :
    ∃ v, spec_l9Rd_num.f k b p l = some (v, p + 1) ∧ v ∈ l := by
  obtain ⟨v, hv, v0, v1⟩ := pick_ok k hk b p (l.length : Int) hb hp0 hp (by omega)
  unfold spec_l9Rd_num.f
  rw [hv]
  simp only [Option.bind_some]
  rw [if_pos v0, if_pos v1]
  refine ⟨_, rfl, ?_⟩
  unfold rd
  rw [List.getD_eq_getElem?_getD, List.getElem?_eq_getElem (by omega)]
  exact List.getElem_mem _

theorem torn_ok (k : Nat) (hk : 2 ≤ k) (b : List Int) (p : Int) (t : ByteArray) (hb : ∀ x ∈ b, 0 ≤ x ∧ x ≤ 255) (hp0 : 0 ≤ p) (hp : p ≤ 900000) (ht : t.size ≤ 10000) :
    ∃ t' p', spec_l4Torn.f k b p t = some (t', p') ∧ t'.size ≤ t.size + 1 ∧ p ≤ p' ∧ p' ≤ p + 4 := by
  obtain ⟨k, rfl⟩ : ∃ m, k = m + 1 := ⟨k - 1, by omega⟩
  unfold spec_l4Torn.f
  by_cases h : t.toList = []
  · rw [if_pos h]; exact ⟨t, p, by simp [spec_l4Torn.j0], by omega, by omega, by omega⟩
  rw [if_neg h]
  obtain ⟨v, hv, v0, v1⟩ := pick_ok (k + 1) (by omega) b p 2 hb hp0 (by omega) (by omega)
  rw [hv]
  simp only [Option.bind_some, spec_l4Torn.j0]
  by_cases c : (v == 0) = true
  · rw [if_pos c]; exact ⟨t, p + 1, rfl, by omega, by omega, by omega⟩
  rw [if_neg c]
  have hz : 0 < t.size := by
    rcases Nat.eq_zero_or_pos t.size with h0 | h0
    · exact absurd (List.eq_nil_of_length_eq_zero (by rw [tlen]; exact h0)) h
    · exact h0
  obtain ⟨u, hu, u0, u1⟩ := pick_ok k (by omega) b (p + 1) (t.size : Int) hb (by omega) (by omega) (by omega)
  rw [hu]
  simp only [Option.bind_some]
  rw [if_pos u0, if_pos (by omega)]
  obtain ⟨x, hx, _⟩ := num_ok k (by omega) b (p + 1 + 1) [0, 1, 2, 3, 64, 127, 128, 129, 255] hb (by omega) (by omega) (by decide)
  rw [hx]
  simp only [Option.bind_some]
  have s1 : (t.extract 0 u.toNat).size = u.toNat := by rw [ByteArray.size_extract]; omega
  rw [if_pos (by rw [s1, son_size]; simp; omega)]
  obtain ⟨y, hy, y0, y1⟩ := pick_ok k (by omega) b (p + 1 + 1 + 1) 2 hb (by omega) (by omega) (by omega)
  rw [hy]
  simp only [Option.bind_some]
  have e : wrap64 (u + y) = u + y := w64 (by omega)
  have s2 : (t.extract (u + y).toNat t.size).size = t.size - (u + y).toNat := by rw [ByteArray.size_extract]; omega
  rw [e, if_pos (by omega), if_pos (by omega), if_pos (by rw [ByteArray.size_append, s1, s2, son_size]; simp; omega)]
  exact ⟨_, _, rfl, by rw [ByteArray.size_append, ByteArray.size_append, s1, s2, son_size]; simp; omega, by omega, by omega⟩

theorem sUp_l0 (xs : List Int) (hm : xs.length ≤ 1048576) : ∀ (d k : Nat) (i : Nat) (last : Int), i + d = xs.length → (i = 0 ∧ last = -1 ∨ 0 < i ∧ last = rd xs ((i : Int) - 1) ∧ 0 ≤ last) → d < k →
    spec_l4Up.l0 k xs i = some (Up last (xs.drop i) && decide ((xs.length : Int) ≤ 127)) := by
  intro d
  induction d with
  | zero =>
    intro k i last hd hl hk
    obtain ⟨k, rfl⟩ : ∃ m, k = m + 1 := ⟨k - 1, by omega⟩
    simp only [spec_l4Up.l0]
    rw [if_neg (by omega), List.drop_of_length_le (by omega)]; simp [Up]
  | succ d ih =>
    intro k i last hd hl hk
    obtain ⟨k, rfl⟩ : ∃ m, k = m + 1 := ⟨k - 1, by omega⟩
    have hi : i < xs.length := by omega
    simp only [spec_l4Up.l0]
    rw [if_pos (by omega), if_pos (by omega), List.drop_eq_getElem_cons hi]
    have er := rd_at hi
    have ih' := ih k (i + 1) xs[i] (by omega)
    rw [show ((i + 1 : Nat) : Int) - 1 = (i : Int) by omega, show ((i + 1 : Nat) : Int) = (i : Int) + 1 by omega] at ih'
    rw [er] at ih' ⊢
    simp only [Up]
    generalize xs[i] = x at *
    by_cases c1 : x < 0
    · rw [if_pos c1, decide_eq_false (show ¬ last < x by omega)]; simp
    · rw [if_neg c1]
      by_cases c2 : x > 16383
      · rw [if_pos c2, decide_eq_false (show ¬ x ≤ 16383 by omega)]; simp
      · rw [if_neg c2, decide_eq_true (show x ≤ 16383 by omega), w64 (x := (i : Int) + 1) (by omega), w64 (x := (i : Int) - 1) (by omega)]
        rcases hl with ⟨h0, hl⟩ | ⟨h0, hl, hl0⟩
        · rw [if_neg (by omega), decide_eq_true (show last < x by omega), ih' (.inr ⟨by omega, rfl, by omega⟩) (by omega)]; simp
        · rw [if_pos (by omega), if_pos (by omega), if_pos (by omega), ← hl]
          by_cases c3 : last ≥ x
          · rw [if_pos c3, decide_eq_false (by omega)]; simp
          · rw [if_neg c3, decide_eq_true (show last < x by omega), ih' (.inr ⟨by omega, rfl, by omega⟩) (by omega)]; simp
theorem sRow_l0 (xs : List Int) (hx : xs.length ≤ 127) : ∀ (d k : Nat) (out : ByteArray) (last : Int) (i : Nat), i + d = xs.length → out.size ≤ 2 * i + 2 → -1 ≤ last → last ≤ 16383 → Up last (xs.drop i) = true → d + 1 < k →
    spec_PackRow.l0 k xs out last i = some (out ++ strOfNums (Gp last (xs.drop i))) := by
  intro d
  induction d with
  | zero =>
    intro k out last i hd ho h0 h1 hu hk
    obtain ⟨k, rfl⟩ : ∃ m, k = m + 1 := ⟨k - 1, by omega⟩
    simp only [spec_PackRow.l0]
    rw [if_neg (by omega), List.drop_of_length_le (by omega)]; simp [Gp, strOfNums, ByteArray.ext_iff]
  | succ d ih =>
    intro k out last i hd ho h0 h1 hu hk
    obtain ⟨k, rfl⟩ : ∃ m, k = m + 1 := ⟨k - 1, by omega⟩
    have hi : i < xs.length := by omega
    simp only [spec_PackRow.l0]
    rw [if_pos (by omega), if_pos (by omega), rd_at hi]
    rw [List.drop_eq_getElem_cons hi] at hu ⊢
    simp only [Up, Bool.and_eq_true, decide_eq_true_eq] at hu
    simp only [Gp]
    generalize xs[i] = x at *
    obtain ⟨u1, u2, u3⟩ := hu
    rw [w64 (x := x - last) (by omega), w64 (x := x - last - 1) (by omega), sPk k (by omega), w64 (x := (i : Int) + 1) (by omega)]
    simp only [Option.bind_some]
    have hp := Pk_len (x - last - 1)
    rw [if_pos (by rw [son_size]; omega)]
    have := ih k (out ++ strOfNums (Pk (x - last - 1))) x (i + 1) (by omega) (by rw [ByteArray.size_append, son_size]; omega) (by omega) (by omega) u3 (by omega)
    rw [show ((i + 1 : Nat) : Int) = (i : Int) + 1 by omega] at this
    rw [this, son_app, ByteArray.append_assoc]
theorem sRow (k : Nat) (xs : List Int) (hm : xs.length ≤ 1048576) (hk : xs.length + 200 ≤ k) : spec_PackRow.f k xs = some (strOfNums (Rw xs)) := by
  unfold spec_PackRow.f spec_l4Up.f Rw
  have hu := sUp_l0 xs hm xs.length k 0 (-1) (by omega) (.inl ⟨rfl, rfl⟩) (by omega)
  simp only [List.drop_zero] at hu
  rw [show ((0 : Nat) : Int) = 0 from rfl] at hu
  rw [hu]
  simp only [Option.bind_some]
  by_cases h : xs.length ≤ 127 ∧ Up (-1) xs = true
  · rw [if_pos (by rw [h.2, decide_eq_true (by omega)]; rfl), if_pos h, sPk k (by omega)]
    simp only [Option.bind_some]
    have hp := Pk_len xs.length
    have := sRow_l0 xs h.1 xs.length k (strOfNums (Pk xs.length)) (-1) 0 (by omega) (by rw [son_size]; omega) (by omega) (by omega) (by simpa using h.2) (by omega)
    rw [show ((0 : Nat) : Int) = 0 from rfl] at this
    rw [this, son_app]; simp
  · rw [if_neg, if_neg h]
    · simp [strOfNums]
    · intro hh
      simp at hh
      exact h ⟨by omega, hh.1⟩

theorem iNA (k : Nat) (hk : 2 ≤ k) (s : ByteArray) (i : Int) (hs : s.size ≤ 140737488351232) : impl_NumAt.f k s i = some (NA s i) := by
  obtain ⟨k, rfl⟩ : ∃ m, k = m + 2 := ⟨k - 2, by omega⟩
  unfold impl_NumAt.f NA
  by_cases h0 : i < 0
  · rw [if_pos h0, if_pos (.inl h0)]; simp [impl_NumAt.j0]
  · rw [if_neg h0]
    by_cases h1 : i ≥ (s.size : Int)
    · rw [if_pos (.inr h1)]; simp [impl_NumAt.j0, h1]
    · have b0 := bt_range s i
      have b1 := bt_range s (i + 1)
      rw [if_neg (by omega)]
      simp only [impl_NumAt.j0, impl_NumAt.j1, decide_eq_true_eq, w64 (x := i + 1) (by omega), w64 (x := i + 2) (by omega), w64 (x := bt s i) (by omega), w64 (x := bt s (i + 1)) (by omega)]
      rw [if_neg h1, if_pos (by omega), if_pos (by omega)]
      by_cases h2 : bt s i < 128
      · rw [if_pos h2, if_pos h2]
      · rw [if_neg h2, if_neg h2]
        have c1 : 0 ≤ i + 1 := by omega
        by_cases h3 : bt s i = 128
        · simp [h3]
        · by_cases h4 : i + 1 ≥ (s.size : Int)
          · simp [h3, h4]
          · have c2 : i + 1 < (s.size : Int) := by omega
            rw [if_neg h3, if_neg h4, if_pos c1, if_pos c2, if_neg (show ¬ (bt s i = 128 ∨ i + 1 ≥ (s.size : Int)) by omega)]
            by_cases h5 : bt s (i + 1) ≥ 128
            · rw [if_pos h5, if_pos h5]
            · rw [if_neg h5, if_neg h5, w64 (x := bt s i - 128) (by omega), w64 (x := (bt s i - 128) * 128) (by omega), w64 (x := (bt s i - 128) * 128 + bt s (i + 1)) (by omega)]

theorem sNA (k : Nat) (hk : 2 ≤ k) (s : ByteArray) (i : Int) (hs : s.size ≤ 140737488351232) : spec_NumAt.f k s i = some (NA s i) := by
  obtain ⟨k, rfl⟩ : ∃ m, k = m + 1 := ⟨k - 1, by omega⟩
  unfold spec_NumAt.f NA
  by_cases h0 : i < 0
  · rw [if_pos h0, if_pos (.inl h0)]; simp [spec_NumAt.j0]
  · rw [if_neg h0]
    by_cases h1 : i ≥ (s.size : Int)
    · rw [if_pos (.inr h1)]; simp [spec_NumAt.j0, h1]
    · have b0 := bt_range s i
      have b1 := bt_range s (i + 1)
      rw [if_neg (by omega)]
      simp only [spec_NumAt.j0, decide_eq_true_eq, w64 (x := i + 1) (by omega), w64 (x := i + 2) (by omega), w64 (x := bt s i) (by omega), w64 (x := bt s (i + 1)) (by omega)]
      rw [if_neg h1, if_pos (by omega), if_pos (by omega)]
      by_cases h2 : bt s i < 128
      · rw [if_pos h2, if_pos h2]
      · rw [if_neg h2, if_neg h2]
        by_cases h4 : i + 1 ≥ (s.size : Int)
        · rw [if_pos h4, if_pos (.inr h4)]
        · rw [if_neg h4]
          by_cases h3 : bt s i = 128
          · rw [if_pos h3, if_pos (.inl h3)]
          · rw [if_neg h3, if_pos (show 0 ≤ i + 1 by omega), if_pos (show i + 1 < (s.size : Int) by omega), if_neg (show ¬ (bt s i = 128 ∨ i + 1 ≥ (s.size : Int)) by omega)]
            by_cases h5 : bt s (i + 1) ≥ 128
            · rw [if_pos (show bt s (i + 1) > 127 by omega), if_pos h5]
            · rw [if_neg (show ¬ bt s (i + 1) > 127 by omega), if_neg h5, w64 (x := bt s i - 128) (by omega), w64 (x := (bt s i - 128) * 128) (by omega), w64 (x := (bt s i - 128) * 128 + bt s (i + 1)) (by omega)]

theorem iPk (k : Nat) (hk : 1 ≤ k) (n : Int) : impl_PackNum.f k n = some (strOfNums (Pk n)) := by
  unfold impl_PackNum.f
  rw [iApp k hk [] (by simp)]; simp
theorem drawPack (k : Nat) (hk : 1 ≤ k) (l : List Int) (hl : ∀ x ∈ l, (Lit.int .u8 x).wf = true) : ∃ n, spec_DrawPackNum.f k l = some n := by
  obtain ⟨b, hb, hB⟩ := open_ok l (u8B hl)
  obtain ⟨v, hv, hm⟩ := num_ok k hk b 0 [0, 1, 127, 128, 129, 255, 300, 16383, 16384, (-1), 9223372036854775807] hB (by omega) (by omega) (by decide)
  exact ⟨v, by unfold spec_DrawPackNum.f; rw [hb]; simp only [Option.bind_some]; rw [hv]; rfl⟩
theorem drawAt (k : Nat) (hk : 204 ≤ k) (l : List Int) (hl : ∀ x ∈ l, (Lit.int .u8 x).wf = true) : ∃ s i, spec_DrawNumAt.f k l = some (s, i) ∧ s.size ≤ 300 := by
  obtain ⟨b, hb, hB⟩ := open_ok l (u8B hl)
  have hr := Rw_len [1, 200, 400, 4000]
  obtain ⟨t, p, ht, hz, hp0, hp1⟩ := torn_ok k (by omega) b 0 (strOfNums (Rw [1, 200, 400, 4000])) hB (by omega) (by omega) (by rw [son_size]; omega)
  obtain ⟨v, hv, hm⟩ := num_ok k (by omega) b p [0, 1, 2, 3, 4, 5, 7, (-1), 20] hB hp0 (by omega) (by decide)
  refine ⟨t, v, ?_, by rw [son_size] at hz; omega⟩
  unfold spec_DrawNumAt.f
  rw [hb]; simp only [Option.bind_some]
  rw [sRow k _ (by simp) (by simpa using hk)]; simp only [Option.bind_some]
  rw [ht]; simp only [Option.bind_some]
  rw [hv]; rfl
theorem last (k : Nat) (hk : 5 ≤ k) (n : Int) (t : ByteArray) (ht : t.size ≤ 300) (i x j : Int) (ok : Bool) (hN : NA t i = (x, j, ok)) :
    laws_FnPackNum.j1 k n (strOfNums (Pk n)) t i x j ok false = some true := by
  obtain ⟨k, rfl⟩ : ∃ m, k = m + 1 := ⟨k - 1, by omega⟩
  have hp := Pk_len n
  obtain ⟨x0, x1, ht1, _⟩ := NA_bound hN
  have fin : (if ok = true then (impl_PackNum.f k x).bind fun t188 => if 0 ≤ i then if i ≤ j then if j ≤ (t.size : Int) then some (t188.toList == (t.extract i.toNat j.toNat).toList) else none else none else none else some true) = some true := by
    by_cases h : ok = true
    · subst h
      obtain ⟨a0, a1, a2⟩ := ht1 rfl
      obtain ⟨ej, eb⟩ := NA_bytes hN
      rw [if_pos rfl, iPk k (by omega)]
      simp only [Option.bind_some]
      rw [if_pos a0, if_pos (by omega), if_pos (by omega), cut_eq (Pk_byte x) a0 ej (by omega) eb]
      simp
    · rw [if_neg h]
  simp only [laws_FnPackNum.j1]
  rw [if_neg (by simp), if_pos (by rw [son_size]; omega), iNA k (by omega) _ _ (by rw [ByteArray.size_append, son_size]; omega)]
  simp only [Option.bind_some]
  by_cases c : n < 0 ∨ n > 16383
  · have e : Pk n = [] := by unfold Pk; rw [if_pos c]
    rw [e, if_pos (by decide +kernel)]
    by_cases d : n ≥ 0
    · rw [if_pos d, if_neg (by omega)]; exact fin
    · rw [if_neg d]; exact fin
  · have hne : 1 ≤ (Pk n).length := by unfold Pk; rw [if_neg c]; split <;> simp
    have e := NA_of (s := strOfNums (Pk n) ++ t) (i := 0) (n := n) (by omega) (by omega) (by omega) (by rw [ByteArray.size_append, son_size]; omega) (fun m hm => by rw [Int.zero_add]; exact bt_sonT (Pk_byte n) t hm)
    rw [if_neg (fun h => by have h := congrArg List.length h; rw [tlen, son_size] at h; rw [List.length_nil] at h; omega), e]
    simp only [son_size, Int.zero_add, if_true]; exact fin
theorem FnPackNum : laws_FnPackNum.Pure := by
  intro l0 l1 _ b0 _ b1
  refine ⟨301, ?_⟩
  unfold laws_FnPackNum.f
  by_cases g0 : (l0.length : Int) > 1048576
  · rw [if_pos g0]; simp [laws_FnPackNum.j0]
  rw [if_neg g0]
  by_cases g1 : (l1.length : Int) > 1048576
  · simp [laws_FnPackNum.j0, g1]
  obtain ⟨n, h0⟩ := drawPack 300 (by decide) l0 b0
  obtain ⟨t, i, h1, hz⟩ := drawAt 300 (by decide) l1 b1
  rw [decide_eq_false g1]
  simp only [laws_FnPackNum.j0, Bool.false_eq_true, if_false, h0, h1, Option.bind_some, iPk 300 (by decide), sPk 300 (by decide), iNA 300 (by decide) t i (by omega), sNA 300 (by decide) t i (by omega), if_true, bne_self_eq_false]
  exact last 300 (by decide) n t hz i _ _ _ rfl

end Go.Proofs.Ytomkkhkfenmdlaa.Pure
