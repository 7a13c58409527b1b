/- The plain law behind FnPackRowCut: packed rows end where they end. -/
import Derived.Test.YtomkkhkfenmdlaaQFnPackRowCutOpen
namespace Go.Proofs.Ytomkkhkfenmdlaa.Pure
open Go.RowKit Go.Proofs.Ytomkkhkfenmdlaa.QFnPackRowCut Go.Proofs.YtomkkhkfenmdlaaW.PrintWords Go.Proofs.YtomkkhkfenmdlaaW.PrintLast
set_option linter.unusedSimpArgs false
set_option linter.unusedVariables false

theorem w64 {x : Int} (h : -9223372036854775808 ≤ x ∧ x ≤ 9223372036854775807) : wrap64 x = x := by unfold wrap64; omega
theorem rdB {b : List Int} (hb : ∀ x ∈ b, 0 ≤ x ∧ x ≤ 255) (i : Int) : 0 ≤ rd b i ∧ rd b i ≤ 255 := by
  unfold rd
  rw [List.getD_eq_getElem?_getD]
  cases h : b[i.toNat]? with
  | none => simp
  | some v => exact hb v (List.mem_of_getElem? h)
theorem u8B {l : List Int} (h : ∀ x ∈ l, (Lit.int .u8 x).wf = true) : ∀ x ∈ l, 0 ≤ x ∧ x ≤ 255 := fun x hx => by
  have := h x hx
  simp [Lit.wf, IntKind.min, IntKind.max, IntKind.signed, IntKind.bits] at this
  omega

theorem bt_ext {s t : ByteArray} (h : s.size = t.size) (hb : ∀ i : Nat, i < s.size → bt s i = bt t i) : s = t := by
  apply ByteArray.ext
  apply Array.ext
  · exact h
  · intro i h1 h2
    have := hb i h1
    unfold bt at this
    rw [dif_pos (by simpa using h1), dif_pos (by simpa using h2)] at this
    have e := Int.ofNat.inj this
    exact UInt8.toNat_inj.1 e
theorem bt_appL {s t : ByteArray} {i : Int} (h : i.toNat < s.size) : bt (s ++ t) i = bt s i := by
  unfold bt
  rw [dif_pos (by rw [ByteArray.size_append]; omega), dif_pos h, ByteArray.getElem_append_left h]
theorem bt_appR {s t : ByteArray} {i : Int} (h0 : (s.size : Int) ≤ i) : bt (s ++ t) i = bt t (i - s.size) := by
  unfold bt
  by_cases h : i.toNat < (s ++ t).size
  · have h' := h; rw [ByteArray.size_append] at h'
    rw [dif_pos h, dif_pos (by omega), ByteArray.getElem_append_right (by omega)]
    congr 2
    simp only [show i.toNat - s.size = (i - (s.size : Int)).toNat by omega]
  · have h' := h; rw [ByteArray.size_append] at h'
    rw [dif_neg h, dif_neg (by omega)]
theorem bt_son {l : List Int} (hl : ∀ x ∈ l, 0 ≤ x ∧ x ≤ 255) {i : Int} (h : i.toNat < l.length) : bt (strOfNums l) i = rd l i := by
  have hs : i.toNat < (strOfNums l).size := by simpa [strOfNums, ByteArray.size] using h
  unfold bt rd
  rw [dif_pos hs, List.getD_eq_getElem?_getD, List.getElem?_eq_getElem h]
  have := hl _ (List.getElem_mem h)
  simp [strOfNums, ByteArray.getElem_eq_getElem_data]
  omega
theorem bt_cut {s : ByteArray} {i j : Nat} {m : Nat} (h : i + m < j) (hj : j ≤ s.size) : bt (s.extract i j) m = bt s ((i + m : Nat) : Int) := by
  unfold bt
  rw [dif_pos (by rw [ByteArray.size_extract]; omega), dif_pos (by omega), ByteArray.getElem_extract]
  congr 2

/-- The bytes of a number. -/
def Pk (n : Int) : List Int := if n < 0 ∨ n > 16383 then [] else if n < 128 then [n] else [128 + n / 128, n % 128]
theorem Pk_len (n : Int) : (Pk n).length ≤ 2 := by
  unfold Pk
  split
  · simp
  · split <;> simp
theorem iApp (k : Nat) (hk : 1 ≤ k) (l : List Int) (hl : l.length ≤ 1000000) (n : Int) : impl_appendNum.f k l n = some (l ++ Pk n) := by
  obtain ⟨k, rfl⟩ : ∃ m, k = m + 1 := ⟨k - 1, by omega⟩
  unfold impl_appendNum.f Pk
  by_cases h0 : n < 0
  · rw [if_pos h0, if_pos (.inl h0)]; simp [impl_appendNum.j0]
  · rw [if_neg h0]
    by_cases h1 : n > 16383
    · rw [if_pos (.inr h1)]; simp [impl_appendNum.j0, h1]
    · rw [if_neg (by omega)]
      by_cases h2 : n < 128
      · simp only [impl_appendNum.j0, decide_eq_true_eq]
        rw [if_neg h1, if_pos h2, if_pos h2, if_pos (by omega), Int.emod_eq_of_lt (show 0 ≤ n by omega) (show n < 256 by omega)]
      · have d1 : Int.tdiv n 128 = n / 128 := Int.tdiv_eq_ediv_of_nonneg (by omega)
        have d2 : Int.tmod n 128 = n % 128 := Int.tmod_eq_emod_of_nonneg (by omega)
        simp only [impl_appendNum.j0, d1, d2, w64 (x := n / 128) (by omega), w64 (x := 128 + n / 128) (by omega), decide_eq_true_eq]
        rw [if_neg h1, if_neg h2, if_neg h2]
        simp only [Option.bind_some]
        rw [if_pos (by simp; omega), Int.emod_eq_of_lt (show 0 ≤ 128 + n / 128 by omega) (show 128 + n / 128 < 256 by omega), Int.emod_eq_of_lt (show 0 ≤ n % 128 by omega) (show n % 128 < 256 by omega)]
theorem sPk (k : Nat) (hk : 1 ≤ k) (n : Int) : spec_PackNum.f k n = some (strOfNums (Pk n)) := by
  obtain ⟨k, rfl⟩ : ∃ m, k = m + 1 := ⟨k - 1, by omega⟩
  unfold spec_PackNum.f Pk
  by_cases h0 : n < 0
  · rw [if_pos h0, if_pos (.inl h0)]; simp [spec_PackNum.j0, strOfNums]
  · rw [if_neg h0]
    by_cases h1 : n > 16383
    · rw [if_pos (.inr h1)]; simp [spec_PackNum.j0, h1, strOfNums]
    · rw [if_neg (by omega)]
      by_cases h2 : n < 128
      · simp [spec_PackNum.j0, h1, h2, Int.emod_eq_of_lt (show 0 ≤ n by omega) (show n < 256 by omega)]
      · have d1 : Int.tdiv n 128 = n / 128 := Int.tdiv_eq_ediv_of_nonneg (by omega)
        have d2 : Int.tmod n 128 = n % 128 := Int.tmod_eq_emod_of_nonneg (by omega)
        simp only [spec_PackNum.j0, d1, d2, w64 (x := n / 128) (by omega), w64 (x := 128 + n / 128) (by omega)]
        simp [h1, h2, Int.emod_eq_of_lt (show 0 ≤ 128 + n / 128 by omega) (show 128 + n / 128 < 256 by omega), Int.emod_eq_of_lt (show 0 ≤ n % 128 by omega) (show n % 128 < 256 by omega)]
theorem son_app (a b : List Int) : strOfNums (a ++ b) = strOfNums a ++ strOfNums b := by
  simp [strOfNums, ByteArray.ext_iff]
theorem son_size (a : List Int) : (strOfNums a).size = a.length := by simp [strOfNums, ByteArray.size]
/-- The gaps' bytes of a list, from a number on. -/
def Gp : Int → List Int → List Int
  | _, [] => []
  | last, x :: xs => Pk (x - last - 1) ++ Gp x xs
/-- It ascends from a number on, up to the greatest. -/
def Up : Int → List Int → Bool
  | _, [] => true
  | last, x :: xs => decide (last < x) && (decide (x ≤ 16383) && Up x xs)
theorem Up_cons {last x : Int} {xs : List Int} : Up last (x :: xs) = true ↔ last < x ∧ x ≤ 16383 ∧ Up x xs = true := by simp [Up]
theorem Gp_len : ∀ (last : Int) (l : List Int), (Gp last l).length ≤ 2 * l.length
  | _, [] => by simp [Gp]
  | last, x :: xs => by have := Pk_len (x - last - 1); have := Gp_len x xs; simp [Gp]; omega
/-- The bytes of a row. -/
def Rw (l : List Int) : List Int := if l.length ≤ 127 ∧ Up (-1) l = true then Pk l.length ++ Gp (-1) l else []
theorem Rw_len (l : List Int) : (Rw l).length ≤ 256 := by
  unfold Rw
  split
  · rename_i h; have := Pk_len l.length; have := Gp_len (-1) l; simp; omega
  · simp
theorem tloop (s : ByteArray) : ∀ (d i : Nat) (r : List UInt8), s.size - i = d → (ByteArray.toList.loop s i r).length = r.length + d := by
  intro d
  induction d with
  | zero => intro i r h; unfold ByteArray.toList.loop; rw [if_neg (by omega)]; simp
  | succ d ih => intro i r h; unfold ByteArray.toList.loop; rw [if_pos (by omega), ih (i + 1) _ (by omega)]; simp; omega
theorem tlen (s : ByteArray) : s.toList.length = s.size := by
  have := tloop s s.size 0 [] (by omega)
  simpa [ByteArray.toList] using this
theorem rd_at {xs : List Int} {i : Nat} (h : i < xs.length) : rd xs (i : Int) = xs[i] := by
  unfold rd; rw [Int.toNat_natCast, List.getD_eq_getElem?_getD, List.getElem?_eq_getElem h]; rfl

/-- The number whose bytes stand somewhere. -/
def NA (s : ByteArray) (i : Int) : Int × Int × Bool :=
  if i < 0 ∨ i ≥ s.size then (0, 0, false) else if bt s i < 128 then (bt s i, i + 1, true) else if bt s i = 128 ∨ i + 1 ≥ s.size then (0, 0, false) else
  if bt s (i + 1) ≥ 128 then (0, 0, false) else ((bt s i - 128) * 128 + bt s (i + 1), i + 2, true)
theorem NA_bound {s : ByteArray} {i n j : Int} {b : Bool} (h : NA s i = (n, j, b)) : 0 ≤ n ∧ n ≤ 16383 ∧ (b = true → 0 ≤ i ∧ i < j ∧ j ≤ s.size) ∧ (b = false → n = 0 ∧ j = 0) := by
  have h0 := bt_range s i
  have h1 := bt_range s (i + 1)
  unfold NA at h
  split at h
  · simp only [Prod.mk.injEq] at h; obtain ⟨rfl, rfl, rfl⟩ := h; simp
  · split at h
    · simp only [Prod.mk.injEq] at h; obtain ⟨rfl, rfl, rfl⟩ := h; refine ⟨by omega, by omega, fun _ => by omega, fun h => by cases h⟩
    · split at h
      · simp only [Prod.mk.injEq] at h; obtain ⟨rfl, rfl, rfl⟩ := h; simp
      · split at h
        · simp only [Prod.mk.injEq] at h; obtain ⟨rfl, rfl, rfl⟩ := h; simp
        · simp only [Prod.mk.injEq] at h; obtain ⟨rfl, rfl, rfl⟩ := h; refine ⟨by omega, by omega, fun _ => by omega, fun h => by cases h⟩

theorem Pk_byte (n : Int) : ∀ x ∈ Pk n, 0 ≤ x ∧ x ≤ 255 := by
  intro x hx
  unfold Pk at hx
  split at hx
  · cases hx
  · split at hx
    · simp at hx; omega
    · simp at hx; omega
/-- A number is read from its bytes, wherever these stand. -/
theorem NA_of {s : ByteArray} {i : Int} {n : Int} (h0 : 0 ≤ n) (h1 : n ≤ 16383) (hi : 0 ≤ i) (hs : i + (Pk n).length ≤ s.size) (hb : ∀ j : Nat, j < (Pk n).length → bt s (i + j) = rd (Pk n) j) :
    NA s i = (n, i + (Pk n).length, true) := by
  unfold Pk at hb hs ⊢
  rw [if_neg (by omega)] at hb hs ⊢
  by_cases c : n < 128
  · rw [if_pos c] at hb hs ⊢
    have b0 := hb 0 (by simp)
    simp [rd] at b0 hs
    unfold NA
    rw [if_neg (by omega), b0, if_pos c]
    simp
  · rw [if_neg c] at hb hs ⊢
    have b0 := hb 0 (by simp)
    have b1 := hb 1 (by simp)
    simp [rd] at b0 b1 hs
    unfold NA
    rw [if_neg (by omega), b0, b1, if_neg (by omega), if_neg (by omega), if_neg (by omega)]
    simp
    omega
/-- What is read has those bytes. -/
theorem NA_bytes {s : ByteArray} {i n j : Int} (h : NA s i = (n, j, true)) : j = i + (Pk n).length ∧ ∀ m : Nat, m < (Pk n).length → bt s (i + m) = rd (Pk n) m := by
  have r0 := bt_range s i
  have r1 := bt_range s (i + 1)
  unfold NA at h
  split at h
  · simp at h
  · split at h
    · simp only [Prod.mk.injEq] at h; obtain ⟨rfl, rfl, _⟩ := h
      rename_i _ c _
      unfold Pk
      rw [if_neg (by omega), if_pos c]
      refine ⟨by simp, fun m hm => ?_⟩
      simp at hm; subst hm; simp [rd]
    · split at h
      · simp at h
      · split at h
        · simp at h
        · simp only [Prod.mk.injEq] at h; obtain ⟨rfl, rfl, _⟩ := h
          unfold Pk
          rw [if_neg (by omega), if_neg (by omega)]
          refine ⟨by simp, fun m hm => ?_⟩
          simp at hm
          rcases (show m = 0 ∨ m = 1 by omega) with rfl | rfl
          · simp [rd]; omega
          · simp [rd]; omega
theorem bt_sonT {l : List Int} (hl : ∀ x ∈ l, 0 ≤ x ∧ x ≤ 255) (t : ByteArray) {j : Nat} (h : j < l.length) : bt (strOfNums l ++ t) j = rd l j := by
  rw [bt_appL (by rw [son_size]; omega), bt_son hl (by omega)]
theorem cut_eq {s : ByteArray} {l : List Int} (hl : ∀ x ∈ l, 0 ≤ x ∧ x ≤ 255) {i j : Int} (h0 : 0 ≤ i) (hj : j = i + l.length) (hs : j ≤ s.size) (hb : ∀ m : Nat, m < l.length → bt s (i + m) = rd l m) : strOfNums l = s.extract i.toNat j.toNat := by
  apply bt_ext
  · rw [son_size, ByteArray.size_extract]; omega
  · intro m hm
    rw [son_size] at hm
    rw [bt_son hl (by omega), bt_cut (by omega) (by omega), ← hb m hm]
    congr 1; omega

/-- So many gaps, read from a place on. -/
def RL (s : ByteArray) : Nat → Int → Int → Option (List Int × Int)
  | 0, at_, _ => some ([], at_)
  | c + 1, at_, last => if (NA s at_).2.2 = true ∧ last + 1 + (NA s at_).1 ≤ 16383 then (RL s c (NA s at_).2.1 (last + 1 + (NA s at_).1)).map fun r => ((last + 1 + (NA s at_).1) :: r.1, r.2) else none
/-- The list whose bytes stand somewhere. -/
def RA (s : ByteArray) (i : Int) : List Int × Int × Bool :=
  if (NA s i).2.2 = true ∧ (NA s i).1 ≤ 127 then (match RL s (NA s i).1.toNat (NA s i).2.1 (-1) with | some r => (r.1, r.2, true) | none => ([], 0, false)) else ([], 0, false)
theorem RL_len : ∀ (s : ByteArray) (c : Nat) (i last : Int) (r : List Int × Int), RL s c i last = some r → r.1.length = c
  | s, 0, i, last, r, h => by simp [RL] at h; subst h; rfl
  | s, c + 1, i, last, r, h => by
    unfold RL at h
    split at h
    · obtain ⟨q, hq, rfl⟩ := Option.map_eq_some_iff.1 h
      have := RL_len s c _ _ q hq
      simp [this]
    · cases h
theorem RA_len (s : ByteArray) (i : Int) : (RA s i).1.length ≤ 127 := by
  unfold RA
  split
  · rename_i h
    split
    · rename_i r hr; have := RL_len _ _ _ _ _ hr; simp only; omega
    · simp
  · simp

/-- These bytes stand there. -/
def Bs (s : ByteArray) (i : Int) (l : List Int) : Prop := 0 ≤ i ∧ i + l.length ≤ s.size ∧ ∀ m : Nat, m < l.length → bt s (i + m) = rd l m
theorem rd_appL {a b : List Int} {m : Nat} (h : m < a.length) : rd (a ++ b) m = rd a m := by
  rw [rd_at h, rd_at (by simp; omega), List.getElem_append_left h]
theorem rd_appR {a b : List Int} {m : Nat} (h : m < b.length) : rd (a ++ b) ((a.length + m : Nat) : Int) = rd b m := by
  rw [rd_at h, rd_at (by simp; omega), List.getElem_append_right (by omega)]
  simp
theorem Bs_app {s : ByteArray} {i : Int} {a b : List Int} : Bs s i (a ++ b) ↔ Bs s i a ∧ Bs s (i + a.length) b := by
  unfold Bs
  simp only [List.length_append]
  constructor
  · rintro ⟨h0, h1, h2⟩
    refine ⟨⟨h0, by omega, fun m hm => ?_⟩, by omega, by omega, fun m hm => ?_⟩
    · rw [h2 m (by omega), rd_appL hm]
    · have := h2 (a.length + m) (by omega)
      rw [rd_appR hm] at this
      rw [← this]; congr 1; omega
  · rintro ⟨⟨h0, h1, h2⟩, h3, h4, h5⟩
    refine ⟨h0, by omega, fun m hm => ?_⟩
    by_cases c : m < a.length
    · rw [h2 m c, rd_appL c]
    · obtain ⟨q, rfl⟩ : ∃ q, m = a.length + q := ⟨m - a.length, by omega⟩
      rw [rd_appR (by omega), ← h5 q (by omega)]; congr 1; omega
theorem NA_Bs {s : ByteArray} {i n : Int} (h0 : 0 ≤ n) (h1 : n ≤ 16383) (h : Bs s i (Pk n)) : NA s i = (n, i + (Pk n).length, true) := NA_of h0 h1 h.1 h.2.1 h.2.2
theorem Bs_NA {s : ByteArray} {i n j : Int} (h : NA s i = (n, j, true)) : j = i + (Pk n).length ∧ Bs s i (Pk n) ∧ 0 ≤ n ∧ n ≤ 16383 := by
  obtain ⟨a, b, c, _⟩ := NA_bound h
  obtain ⟨e, f⟩ := NA_bytes h
  have := c rfl
  exact ⟨e, ⟨this.1, by omega, f⟩, a, b⟩
theorem RL_of : ∀ {s : ByteArray} (l : List Int) {i last : Int}, -1 ≤ last → Up last l = true → Bs s i (Gp last l) → RL s l.length i last = some (l, i + (Gp last l).length)
  | s, [], i, last, h0, hu, hb => by simp [RL, Gp]
  | s, x :: xs, i, last, h0, hu, hb => by
    obtain ⟨u1, u2, u3⟩ := Up_cons.1 hu
    obtain ⟨b1, b2⟩ := Bs_app.1 hb
    have e := NA_Bs (by omega) (by omega) b1
    simp only [List.length_cons, RL, e]
    rw [if_pos ⟨trivial, by omega⟩, show last + 1 + (x - last - 1) = x by omega, RL_of xs (by omega) u3 b2]
    simp [Gp]; omega
theorem RL_back : ∀ {s : ByteArray} (c : Nat) {i last : Int} {r : List Int × Int}, -1 ≤ last → 0 ≤ i → i ≤ s.size → RL s c i last = some r → r.1.length = c ∧ Up last r.1 = true ∧ r.2 = i + (Gp last r.1).length ∧ Bs s i (Gp last r.1)
  | s, 0, i, last, r, h0, h1, h2, h => by
    simp [RL] at h; subst h
    exact ⟨rfl, rfl, by simp [Gp], h1, by simp [Gp]; omega, fun m hm => by simp [Gp] at hm⟩
  | s, c + 1, i, last, r, h0, h1, h2, h => by
    unfold RL at h
    split at h
    · rename_i g
      obtain ⟨q, hq, rfl⟩ := Option.map_eq_some_iff.1 h
      have e : NA s i = ((NA s i).1, (NA s i).2.1, true) := by rw [← g.1]
      obtain ⟨n1, n2, n3, n4⟩ := Bs_NA e
      have n5 := n2.2.1
      generalize (NA s i).1 = n at *
      generalize (NA s i).2.1 = j at *
      obtain ⟨a1, a2, a3, a4⟩ := RL_back c (by omega) (by omega) (by omega) hq
      refine ⟨by simp [a1], Up_cons.2 ⟨by omega, g.2, a2⟩, ?_, ?_⟩
      · simp only [Gp, show last + 1 + n - last - 1 = n by omega, List.length_append]; omega
      · simp only [Gp, show last + 1 + n - last - 1 = n by omega]
        exact Bs_app.2 ⟨n2, by rw [← n1]; exact a4⟩
    · cases h
theorem Rw_eq {l : List Int} (h : Rw l ≠ []) : l.length ≤ 127 ∧ Up (-1) l = true ∧ Rw l = Pk l.length ++ Gp (-1) l := by
  unfold Rw at h ⊢
  split at h
  · rename_i c; exact ⟨c.1, c.2, by rw [if_pos c]⟩
  · exact absurd rfl h
theorem RA_of {s : ByteArray} {l : List Int} {i : Int} (h : Rw l ≠ []) (hb : Bs s i (Rw l)) : RA s i = (l, i + (Rw l).length, true) := by
  obtain ⟨h1, h2, h3⟩ := Rw_eq h
  rw [h3] at hb ⊢
  obtain ⟨b1, b2⟩ := Bs_app.1 hb
  unfold RA
  rw [NA_Bs (by omega) (by omega) b1]
  simp only [Int.toNat_natCast]
  rw [if_pos ⟨trivial, by omega⟩, RL_of l (by omega) h2 b2]
  simp; omega
theorem RA_back {s : ByteArray} {l : List Int} {i j : Int} (h : RA s i = (l, j, true)) : Rw l ≠ [] ∧ j = i + (Rw l).length ∧ Bs s i (Rw l) := by
  unfold RA at h
  split at h
  · rename_i g
    have e : NA s i = ((NA s i).1, (NA s i).2.1, true) := by rw [← g.1]
    obtain ⟨n1, n2, n3, n4⟩ := Bs_NA e
    have n5 := n2.2.1
    have n6 := n2.1
    generalize (NA s i).1 = n at *
    generalize (NA s i).2.1 = q at *
    split at h
    · rename_i r hr
      obtain ⟨a1, a2, a3, a4⟩ := RL_back n.toNat (by omega) (by omega) (by omega) hr
      simp only [Prod.mk.injEq] at h
      obtain ⟨rfl, rfl, _⟩ := h
      have c : r.1.length ≤ 127 ∧ Up (-1) r.1 = true := ⟨by omega, a2⟩
      have e2 : Rw r.1 = Pk n ++ Gp (-1) r.1 := by unfold Rw; rw [if_pos c, show ((r.1.length : Nat) : Int) = n by omega]
      rw [e2]
      refine ⟨?_, by simp; omega, Bs_app.2 ⟨n2, by rw [← n1]; exact a4⟩⟩
      have : 1 ≤ (Pk n).length := by unfold Pk; rw [if_neg (by omega)]; split <;> simp
      intro hh; rw [List.append_eq_nil_iff] at hh; rw [hh.1] at this; simp at this
    · simp at h
  · simp at h
theorem RA_false {s : ByteArray} {i : Int} (h : (RA s i).2.2 = false) : RA s i = ([], 0, false) := by
  unfold RA at h ⊢
  split
  · rename_i g
    rw [if_pos g] at h
    split
    · rename_i r hr; rw [hr] at h; simp at h
    · rfl
  · rfl
theorem Gp_byte : ∀ (l : List Int) (last : Int), ∀ x ∈ Gp last l, 0 ≤ x ∧ x ≤ 255
  | [], last, x, hx => by simp [Gp] at hx
  | y :: l, last, x, hx => by
    simp only [Gp, List.mem_append] at hx
    rcases hx with hx | hx
    · exact Pk_byte _ x hx
    · exact Gp_byte l y x hx
theorem Rw_byte (l : List Int) : ∀ x ∈ Rw l, 0 ≤ x ∧ x ≤ 255 := by
  intro x hx
  unfold Rw at hx
  split at hx
  · rcases List.mem_append.1 hx with hx | hx
    · exact Pk_byte _ x hx
    · exact Gp_byte _ _ x hx
  · cases hx
theorem Bs_son {l : List Int} (hl : ∀ x ∈ l, 0 ≤ x ∧ x ≤ 255) (t : ByteArray) : Bs (strOfNums l ++ t) 0 l :=
  ⟨by omega, by rw [ByteArray.size_append, son_size]; omega, fun m hm => by rw [Int.zero_add]; exact bt_sonT hl t hm⟩
theorem Up_pair : ∀ (l : List Int) (last : Int), Up last l = true → ∀ m : Nat, m + 1 < l.length → rd l m < rd l ((m : Int) + 1)
  | [], _, _, m, hm => by simp at hm
  | [x], _, _, m, hm => by simp at hm
  | x :: y :: l, last, hu, m, hm => by
    obtain ⟨_, _, u⟩ := Up_cons.1 hu
    cases m with
    | zero => have := (Up_cons.1 u).1; simpa [rd] using this
    | succ m =>
      have := Up_pair (y :: l) x u m (by simp at hm ⊢; omega)
      have e : ∀ q : Nat, rd (x :: y :: l) ((q + 1 : Nat) : Int) = rd (y :: l) q := fun q => by simp [rd]
      rw [show (((m + 1 : Nat) : Int) + 1) = ((m + 1 + 1 : Nat) : Int) by omega, e, e]
      rw [show ((m : Int) + 1) = ((m + 1 : Nat) : Int) by omega] at this
      exact this

theorem xor_nn {x y : Int} (hx : 0 ≤ x) (hx1 : x < 4611686018427387904) (hy : 0 ≤ y) (hy1 : y < 4611686018427387904) : 0 ≤ Go.bits .xor .i64 x y := by
  obtain ⟨a, rfl⟩ := Int.eq_ofNat_of_zero_le hx
  obtain ⟨b, rfl⟩ := Int.eq_ofNat_of_zero_le hy
  have ha : a < 2 ^ 62 := by omega
  have hb : b < 2 ^ 62 := by omega
  have hab : a ^^^ b < 2 ^ 62 := Nat.xor_lt_two_pow ha hb
  have ea : a % 2 ^ IntKind.i64.bits = a := Nat.mod_eq_of_lt (by simp [IntKind.bits]; omega)
  have eb : b % 2 ^ IntKind.i64.bits = b := Nat.mod_eq_of_lt (by simp [IntKind.bits]; omega)
  simp only [Go.bits, BitVec.ofInt_natCast, BitVec.toNat_xor, BitVec.toNat_ofNat, ea, eb]
  rw [IntKind.wrap_i64]
  omega

theorem pick_ok (k : Nat) (hk : 1 ≤ k) (b : List Int) (p n : Int) (hb : ∀ x ∈ b, 0 ≤ x ∧ x ≤ 255) (hp0 : 0 ≤ p) (hp : p ≤ 1000000) (hn : 1 ≤ n) :
    ∃ v, spec_l9Rd_pick.f k b p n = some (v, p + 1) ∧ 0 ≤ v ∧ v < n := by
  obtain ⟨k, rfl⟩ : ∃ m, k = m + 1 := ⟨k - 1, by omega⟩
  have w1 : wrap64 (p + 1) = p + 1 := w64 (by omega)
  have w2 : wrap64 (p + 1 - 1) = p := by rw [Int.add_sub_cancel]; exact w64 (by omega)
  unfold spec_l9Rd_pick.f
  rw [if_neg (by omega), w1]
  by_cases he : (b.length : Int) = 0
  · rw [show ((b.length : Int) == 0) = true by simpa using he]
    exact ⟨0, by simp [spec_l9Rd_pick.j0], by omega, by omega⟩
  · rw [show ((b.length : Int) == 0) = false by simpa using he]
    simp only [spec_l9Rd_pick.j0, w2]
    rw [if_neg (by decide)]
    by_cases h1 : p < (b.length : Int)
    · rw [if_pos h1, if_pos hp0, if_neg (by omega), w64 (x := rd b p) (by have := rdB hb p; omega)]
      exact ⟨_, rfl, Int.tmod_nonneg _ (rdB hb p).1, Int.tmod_lt_of_pos _ (by omega)⟩
    · have hl : (0 : Int) < b.length := by omega
      rw [if_neg h1, if_neg he]
      have m0 : 0 ≤ Int.tmod p b.length := Int.tmod_nonneg _ hp0
      have m1 : Int.tmod p b.length < b.length := Int.tmod_lt_of_pos _ hl
      have w3 : wrap64 (wrap64 (p * 7) + 3) = p * 7 + 3 := by rw [w64 (x := p * 7) (by omega)]; exact w64 (by omega)
      have m2 : 0 ≤ Int.tmod (p * 7 + 3) b.length := Int.tmod_nonneg _ (by omega)
      have m3 : Int.tmod (p * 7 + 3) b.length < b.length := Int.tmod_lt_of_pos _ hl
      rw [if_pos m0, if_pos m1, w3, if_pos m2, if_pos m3, if_neg (by omega)]
      have r1 := rdB hb (Int.tmod p b.length)
      have r2 := rdB hb (Int.tmod (p * 7 + 3) b.length)
      have d0 : 0 ≤ Int.tdiv p b.length := Int.tdiv_nonneg hp0 (by omega)
      have d1 : Int.tdiv p b.length ≤ p := Int.tdiv_le_self _ hp0
      generalize rd b (Int.tmod p b.length) = R1 at *
      generalize rd b (Int.tmod (p * 7 + 3) b.length) = R2 at *
      generalize Int.tdiv p b.length = D at *
      rw [w64 (x := R1) (by omega), w64 (x := R2) (by omega), w64 (x := D) (by omega), w64 (x := R1 * 131) (by omega), w64 (x := R2 * 1117) (by omega), w64 (x := p * 29) (by omega), w64 (x := D * 53) (by omega), w64 (x := R1 * 131 + R2 * 1117) (by omega),
        w64 (x := R1 * 131 + R2 * 1117 + p * 29) (by omega), w64 (x := R1 * 131 + R2 * 1117 + p * 29 + D * 53) (by omega)]
      have x0 : 0 ≤ R1 * 131 + R2 * 1117 + p * 29 + D * 53 := by omega
      have x1 : R1 * 131 + R2 * 1117 + p * 29 + D * 53 < 4611686018427387904 := by omega
      generalize R1 * 131 + R2 * 1117 + p * 29 + D * 53 = X at *
      have y0 : 0 ≤ Int.tdiv X 64 := Int.tdiv_nonneg x0 (by decide)
      have y1 : Int.tdiv X 64 ≤ X := Int.tdiv_le_self _ x0
      rw [w64 (x := Int.tdiv X 64) (by omega)]
      exact ⟨_, rfl, Int.tmod_nonneg _ (xor_nn x0 x1 y0 (by omega)), Int.tmod_lt_of_pos _ (by omega)⟩
theorem open_ok (l : List Int) (hl : ∀ x ∈ l, 0 ≤ x ∧ x ≤ 255) : ∃ b, spec_l9Open.f l = some (b, 0) ∧ ∀ x ∈ b, 0 ≤ x ∧ x ≤ 255 := by
  unfold spec_l9Open.f
  by_cases h : (l.length : Int) > 2000
  · rw [if_pos h, if_pos (by omega)]
    exact ⟨_, rfl, fun x hx => hl x (List.mem_of_mem_take hx)⟩
  · rw [if_neg h]; exact ⟨_, rfl, hl⟩

theorem num_ok (k : Nat) (hk : 1 ≤ k) (b : List Int) (p : Int) (l : List Int) (hb : ∀ x ∈ b, 0 ≤ x ∧ x ≤ 255) (hp0 : 0 ≤ p) (hp : p ≤ 1000000) (hn : 1 ≤ l.length) :
    ∃ v, spec_l9Rd_num.f k b p l = some (v, p + 1) ∧ v ∈ l := by
  obtain ⟨v, hv, v0, v1⟩ := pick_ok k hk b p (l.length : Int) hb hp0 hp (by omega)
  unfold spec_l9Rd_num.f
  rw [hv]
  simp only [Option.bind_some]
  rw [if_pos v0, if_pos v1]
  refine ⟨_, rfl, ?_⟩
  unfold rd
  rw [List.getD_eq_getElem?_getD, List.getElem?_eq_getElem (by omega)]
  exact List.getElem_mem _

theorem l4list_l0 (b : List Int) (hb : ∀ x ∈ b, 0 ≤ x ∧ x ≤ 255) : ∀ (d k : Nat) (xs : List Int) (last n p : Int), n = d → d ≤ 6 → (∀ x ∈ xs, -1 ≤ x ∧ x ≤ 16384) → xs.length + d ≤ 6 → -1 ≤ last → last + 201 * d ≤ 2000 → 0 ≤ p → p + 3 * d ≤ 500 → d + 3 < k →
    ∃ ys q, spec_l4List.l0 k xs last n b p = some (ys, q) ∧ ys.length ≤ 6 ∧ (∀ x ∈ ys, -1 ≤ x ∧ x ≤ 16384) ∧ 0 ≤ q ∧ q ≤ 510 := by
  intro d
  induction d with
  | zero =>
    intro k xs last n p hn hd hx hl h0 h1 hp hp1 hk
    obtain ⟨k, rfl⟩ : ∃ m, k = m + 2 := ⟨k - 2, by omega⟩
    simp only [spec_l4List.l0]
    rw [if_neg (by omega)]
    by_cases c : (xs.length : Int) > 0
    · rw [if_pos c]
      obtain ⟨u, hu, u0, u1⟩ := pick_ok (k + 1) (by omega) b p 12 hb hp (by omega) (by omega)
      rw [hu]
      simp only [Option.bind_some, spec_l4List.j1]
      by_cases e : (u == 0) = true
      · rw [if_pos e]
        obtain ⟨v, hv, v0, v1⟩ := pick_ok k (by omega) b (p + 1) (xs.length : Int) hb (by omega) (by omega) (by omega)
        obtain ⟨y, hy, hm⟩ := num_ok k (by omega) b (p + 1 + 1) [(-1), 16383, 16384, 0] hb (by omega) (by omega) (by decide)
        rw [hv]; simp only [Option.bind_some]
        rw [hy]; simp only [Option.bind_some]
        rw [if_pos v0, if_pos v1]
        refine ⟨_, _, rfl, by simp; omega, fun x hxm => ?_, by omega, by omega⟩
        rcases List.mem_or_eq_of_mem_set hxm with h | h
        · exact hx x h
        · subst h; simp at hm; omega
      · rw [if_neg e]; exact ⟨_, _, rfl, by omega, hx, by omega, by omega⟩
    · rw [if_neg c]; simp only [spec_l4List.j1]; rw [if_neg (by simp)]; exact ⟨_, _, rfl, by omega, hx, by omega, by omega⟩
  | succ d ih =>
    intro k xs last n p hn hd hx hl h0 h1 hp hp1 hk
    obtain ⟨k, rfl⟩ : ∃ m, k = m + 1 := ⟨k - 1, by omega⟩
    simp only [spec_l4List.l0]
    rw [if_pos (by omega)]
    obtain ⟨y, hy, hm⟩ := num_ok k (by omega) b p [0, 1, 5, 63, 126, 127, 128, 200] hb (by omega) (by omega) (by decide)
    have hy2 : 0 ≤ y ∧ y ≤ 200 := by simp at hm; omega
    rw [hy]; simp only [Option.bind_some]
    rw [if_pos (by omega), w64 (x := last + 1) (by omega), w64 (x := last + 1 + y) (by omega), w64 (x := n - 1) (by omega)]
    refine ih k _ (last + 1 + y) (n - 1) (p + 1) (by omega) (by omega) (fun x hxm => ?_) (by simp; omega) (by omega) (by omega) (by omega) (by omega) (by omega)
    rcases List.mem_append.1 hxm with h | h
    · exact hx x h
    · simp at h; subst h; omega
theorem l4list_ok (k : Nat) (hk : 10 ≤ k) (b : List Int) (hb : ∀ x ∈ b, 0 ≤ x ∧ x ≤ 255) : ∃ ys q, spec_l4List.f k b 0 = some (ys, q) ∧ ys.length ≤ 6 ∧ (∀ x ∈ ys, -1 ≤ x ∧ x ≤ 16384) ∧ 0 ≤ q ∧ q ≤ 510 := by
  unfold spec_l4List.f
  obtain ⟨u, hu, u0, u1⟩ := pick_ok k (by omega) b 0 6 hb (by omega) (by omega) (by omega)
  rw [hu]; simp only [Option.bind_some]
  exact l4list_l0 b hb u.toNat k [] (-1) u (0 + 1) (by omega) (by omega) (fun x hx => by cases hx) (by simp; omega) (by omega) (by omega) (by omega) (by omega) (by omega)
theorem drawRow (k : Nat) (hk : 10 ≤ k) (l : List Int) (hl : ∀ x ∈ l, (Lit.int .u8 x).wf = true) : ∃ ys, spec_DrawPackRow.f k l = some ys ∧ ys.length ≤ 6 ∧ (∀ x ∈ ys, -1 ≤ x ∧ x ≤ 16384) := by
  obtain ⟨b, hb, hB⟩ := open_ok l (u8B hl)
  obtain ⟨ys, q, h, h1, h2, _⟩ := l4list_ok k hk b hB
  exact ⟨ys, by unfold spec_DrawPackRow.f; rw [hb]; simp only [Option.bind_some]; rw [h]; rfl, h1, h2⟩

theorem sUp_l0 (xs : List Int) (hm : xs.length ≤ 1048576) : ∀ (d k : Nat) (i : Nat) (last : Int), i + d = xs.length → (i = 0 ∧ last = -1 ∨ 0 < i ∧ last = rd xs ((i : Int) - 1) ∧ 0 ≤ last) → d < k →
    spec_l4Up.l0 k xs i = some (Up last (xs.drop i) && decide ((xs.length : Int) ≤ 127)) := by
  intro d
  induction d with
  | zero =>
    intro k i last hd hl hk
    obtain ⟨k, rfl⟩ : ∃ m, k = m + 1 := ⟨k - 1, by omega⟩
    simp only [spec_l4Up.l0]
    rw [if_neg (by omega), List.drop_of_length_le (by omega)]; simp [Up]
  | succ d ih =>
    intro k i last hd hl hk
    obtain ⟨k, rfl⟩ : ∃ m, k = m + 1 := ⟨k - 1, by omega⟩
    have hi : i < xs.length := by omega
    simp only [spec_l4Up.l0]
    rw [if_pos (by omega), if_pos (by omega), List.drop_eq_getElem_cons hi]
    have er := rd_at hi
    have ih' := ih k (i + 1) xs[i] (by omega)
    rw [show ((i + 1 : Nat) : Int) - 1 = (i : Int) by omega, show ((i + 1 : Nat) : Int) = (i : Int) + 1 by omega] at ih'
    rw [er] at ih' ⊢
    simp only [Up]
    generalize xs[i] = x at *
    by_cases c1 : x < 0
    · rw [if_pos c1, decide_eq_false (show ¬ last < x by omega)]; simp
    · rw [if_neg c1]
      by_cases c2 : x > 16383
      · rw [if_pos c2, decide_eq_false (show ¬ x ≤ 16383 by omega)]; simp
      · rw [if_neg c2, decide_eq_true (show x ≤ 16383 by omega), w64 (x := (i : Int) + 1) (by omega), w64 (x := (i : Int) - 1) (by omega)]
        rcases hl with ⟨h0, hl⟩ | ⟨h0, hl, hl0⟩
        · rw [if_neg (by omega), decide_eq_true (show last < x by omega), ih' (.inr ⟨by omega, rfl, by omega⟩) (by omega)]; simp
        · rw [if_pos (by omega), if_pos (by omega), if_pos (by omega), ← hl]
          by_cases c3 : last ≥ x
          · rw [if_pos c3, decide_eq_false (by omega)]; simp
          · rw [if_neg c3, decide_eq_true (show last < x by omega), ih' (.inr ⟨by omega, rfl, by omega⟩) (by omega)]; simp
theorem sRow_l0 (xs : List Int) (hx : xs.length ≤ 127) : ∀ (d k : Nat) (out : ByteArray) (last : Int) (i : Nat), i + d = xs.length → out.size ≤ 2 * i + 2 → -1 ≤ last → last ≤ 16383 → Up last (xs.drop i) = true → d + 1 < k →
    spec_PackRow.l0 k xs out last i = some (out ++ strOfNums (Gp last (xs.drop i))) := by
  intro d
  induction d with
  | zero =>
    intro k out last i hd ho h0 h1 hu hk
    obtain ⟨k, rfl⟩ : ∃ m, k = m + 1 := ⟨k - 1, by omega⟩
    simp only [spec_PackRow.l0]
    rw [if_neg (by omega), List.drop_of_length_le (by omega)]; simp [Gp, strOfNums, ByteArray.ext_iff]
  | succ d ih =>
    intro k out last i hd ho h0 h1 hu hk
    obtain ⟨k, rfl⟩ : ∃ m, k = m + 1 := ⟨k - 1, by omega⟩
    have hi : i < xs.length := by omega
    simp only [spec_PackRow.l0]
    rw [if_pos (by omega), if_pos (by omega), rd_at hi]
    rw [List.drop_eq_getElem_cons hi] at hu ⊢
    simp only [Up, Bool.and_eq_true, decide_eq_true_eq] at hu
    simp only [Gp]
    generalize xs[i] = x at *
    obtain ⟨u1, u2, u3⟩ := hu
    rw [w64 (x := x - last) (by omega), w64 (x := x - last - 1) (by omega), sPk k (by omega), w64 (x := (i : Int) + 1) (by omega)]
    simp only [Option.bind_some]
    have hp := Pk_len (x - last - 1)
    rw [if_pos (by rw [son_size]; omega)]
    have := ih k (out ++ strOfNums (Pk (x - last - 1))) x (i + 1) (by omega) (by rw [ByteArray.size_append, son_size]; omega) (by omega) (by omega) u3 (by omega)
    rw [show ((i + 1 : Nat) : Int) = (i : Int) + 1 by omega] at this
    rw [this, son_app, ByteArray.append_assoc]
theorem sRow (k : Nat) (xs : List Int) (hm : xs.length ≤ 1048576) (hk : xs.length + 200 ≤ k) : spec_PackRow.f k xs = some (strOfNums (Rw xs)) := by
  unfold spec_PackRow.f spec_l4Up.f Rw
  have hu := sUp_l0 xs hm xs.length k 0 (-1) (by omega) (.inl ⟨rfl, rfl⟩) (by omega)
  simp only [List.drop_zero] at hu
  rw [show ((0 : Nat) : Int) = 0 from rfl] at hu
  rw [hu]
  simp only [Option.bind_some]
  by_cases h : xs.length ≤ 127 ∧ Up (-1) xs = true
  · rw [if_pos (by rw [h.2, decide_eq_true (by omega)]; rfl), if_pos h, sPk k (by omega)]
    simp only [Option.bind_some]
    have hp := Pk_len xs.length
    have := sRow_l0 xs h.1 xs.length k (strOfNums (Pk xs.length)) (-1) 0 (by omega) (by rw [son_size]; omega) (by omega) (by omega) (by simpa using h.2) (by omega)
    rw [show ((0 : Nat) : Int) = 0 from rfl] at this
    rw [this, son_app]; simp
  · rw [if_neg, if_neg h]
    · simp [strOfNums]
    · intro hh
      simp at hh
      exact h ⟨by omega, hh.1⟩

theorem iRow_l0 (xs : List Int) (hx : xs.length ≤ 127) (hw : ∀ x ∈ xs, -9223372036854775808 ≤ x ∧ x ≤ 9223372036854775807) : ∀ (d k : Nat) (out : List Int) (last : Int) (i : Nat), i + d = xs.length → out.length ≤ 2 * i + 2 → -1 ≤ last → last ≤ 16383 → d + 1 < k →
    impl_PackRow.l0 k out last xs xs.length i = some (if Up last (xs.drop i) = true then strOfNums (out ++ Gp last (xs.drop i)) else ⟨#[]⟩) := by
  intro d
  induction d with
  | zero =>
    intro k out last i hd ho h0 h1 hk
    obtain ⟨k, rfl⟩ : ∃ m, k = m + 1 := ⟨k - 1, by omega⟩
    simp only [impl_PackRow.l0]
    rw [if_neg (by omega), List.drop_of_length_le (by omega)]; simp [Up, Gp]
  | succ d ih =>
    intro k out last i hd ho h0 h1 hk
    obtain ⟨k, rfl⟩ : ∃ m, k = m + 1 := ⟨k - 1, by omega⟩
    have hi : i < xs.length := by omega
    have hwi := hw _ (List.getElem_mem hi)
    simp only [impl_PackRow.l0]
    rw [if_pos (by omega), if_pos (by omega), if_pos (by omega), rd_at hi, List.drop_eq_getElem_cons hi]
    simp only [Gp]
    generalize xs[i] = x at *
    by_cases c1 : x ≤ last
    · rw [if_pos c1, if_neg (fun h => by have := Up_cons.1 h; omega)]
    · rw [if_neg c1]
      by_cases c2 : x > 16383
      · rw [if_pos c2, if_neg (fun h => by have := Up_cons.1 h; omega)]
      · rw [if_neg c2, w64 (x := x - last) (by omega), w64 (x := x - last - 1) (by omega), iApp k (by omega) out (by omega), w64 (x := (i : Int) + 1) (by omega)]
        simp only [Option.bind_some]
        have hp := Pk_len (x - last - 1)
        have := ih k (out ++ Pk (x - last - 1)) x (i + 1) (by omega) (by simp; omega) (by omega) (by omega) (by omega)
        rw [show ((i + 1 : Nat) : Int) = (i : Int) + 1 by omega] at this
        rw [this]
        by_cases u : Up x (xs.drop (i + 1)) = true
        · rw [if_pos u, if_pos (Up_cons.2 ⟨by omega, by omega, u⟩), List.append_assoc]
        · rw [if_neg u, if_neg (fun h => u (Up_cons.1 h).2.2)]
theorem iRow (k : Nat) (hk : 200 ≤ k) (xs : List Int) (hm : xs.length ≤ 1048576) (hw : ∀ x ∈ xs, -9223372036854775808 ≤ x ∧ x ≤ 9223372036854775807) : impl_PackRow.f k xs = some (strOfNums (Rw xs)) := by
  unfold impl_PackRow.f Rw
  by_cases h : (xs.length : Int) > 127
  · rw [if_pos h, if_neg (by omega)]; simp [strOfNums]
  · rw [if_neg h, iApp k (by omega) [] (by simp)]
    simp only [Option.bind_some, List.nil_append]
    have hp := Pk_len xs.length
    have := iRow_l0 xs (by omega) hw xs.length k (Pk xs.length) (-1) 0 (by omega) (by omega) (by omega) (by omega) (by omega)
    simp only [List.drop_zero] at this
    rw [show ((0 : Nat) : Int) = 0 from rfl] at this
    rw [this]
    by_cases u : Up (-1) xs = true
    · rw [if_pos u, if_pos ⟨by omega, u⟩]
    · rw [if_neg u, if_neg (fun h => u h.2)]; simp [strOfNums]

theorem iNA (k : Nat) (hk : 2 ≤ k) (s : ByteArray) (i : Int) (hs : s.size ≤ 140737488351232) : impl_NumAt.f k s i = some (NA s i) := by
  obtain ⟨k, rfl⟩ : ∃ m, k = m + 2 := ⟨k - 2, by omega⟩
  unfold impl_NumAt.f NA
  by_cases h0 : i < 0
  · rw [if_pos h0, if_pos (.inl h0)]; simp [impl_NumAt.j0]
  · rw [if_neg h0]
    by_cases h1 : i ≥ (s.size : Int)
    · rw [if_pos (.inr h1)]; simp [impl_NumAt.j0, h1]
    · have b0 := bt_range s i
      have b1 := bt_range s (i + 1)
      rw [if_neg (by omega)]
      simp only [impl_NumAt.j0, impl_NumAt.j1, decide_eq_true_eq, w64 (x := i + 1) (by omega), w64 (x := i + 2) (by omega), w64 (x := bt s i) (by omega), w64 (x := bt s (i + 1)) (by omega)]
      rw [if_neg h1, if_pos (by omega), if_pos (by omega)]
      by_cases h2 : bt s i < 128
      · rw [if_pos h2, if_pos h2]
      · rw [if_neg h2, if_neg h2]
        have c1 : 0 ≤ i + 1 := by omega
        by_cases h3 : bt s i = 128
        · simp [h3]
        · by_cases h4 : i + 1 ≥ (s.size : Int)
          · simp [h3, h4]
          · have c2 : i + 1 < (s.size : Int) := by omega
            rw [if_neg h3, if_neg h4, if_pos c1, if_pos c2, if_neg (show ¬ (bt s i = 128 ∨ i + 1 ≥ (s.size : Int)) by omega)]
            by_cases h5 : bt s (i + 1) ≥ 128
            · rw [if_pos h5, if_pos h5]
            · rw [if_neg h5, if_neg h5, w64 (x := bt s i - 128) (by omega), w64 (x := (bt s i - 128) * 128) (by omega), w64 (x := (bt s i - 128) * 128 + bt s (i + 1)) (by omega)]

theorem iNum (k : Nat) (hk : 2 ≤ k) (s : ByteArray) (hs : s.size ≤ 140737488351232) (i : Int) : impl_byteReader_num.f k s i false = some (if (NA s i).2.2 = true then ((NA s i).1, s, (NA s i).2.1, false) else (0, s, i, true)) := by
  unfold impl_byteReader_num.f
  rw [if_neg (by decide), iNA k hk s i hs]
  simp only [Option.bind_some]
  split <;> rfl
theorem iRL (s : ByteArray) (hs : s.size ≤ 140737488351232) (n : Int) (hn : n ≤ 127) : ∀ (d k : Nat) (at_ : Int) (out : List Int) (last : Int) (i : Int), 0 ≤ i → i + d = n → out.length ≤ i → -1 ≤ last → last ≤ 16383 → 2 * d + 6 < k →
    ∃ l e, impl_byteReader_row.l0 k n out last i s at_ false = some (l, s, e, (RL s d at_ last).isNone) ∧ ∀ r, RL s d at_ last = some r → l = out ++ r.1 ∧ e = r.2 := by
  intro d
  induction d with
  | zero =>
    intro k at_ out last i hi hd ho h0 h1 hk
    obtain ⟨k, rfl⟩ : ∃ m, k = m + 2 := ⟨k - 2, by omega⟩
    simp only [impl_byteReader_row.l0, impl_byteReader_row.j2]
    rw [if_neg (by omega)]
    exact ⟨out, at_, by simp [RL], fun r hr => by simp [RL] at hr; subst hr; simp⟩
  | succ d ih =>
    intro k at_ out last i hi hd ho h0 h1 hk
    obtain ⟨k, rfl⟩ : ∃ m, k = m + 2 := ⟨k - 2, by omega⟩
    simp only [impl_byteReader_row.l0, impl_byteReader_row.j2, Bool.not_false, if_true]
    rw [if_pos (by omega), iNum k (by omega) s hs]
    simp only [Option.bind_some, RL]
    obtain ⟨⟨g, j, b⟩, hq⟩ : ∃ z, NA s at_ = z := ⟨_, rfl⟩
    have hb := NA_bound hq
    rw [hq]
    have stop : ∀ (k : Nat) (l : List Int) (p x e : Int), 2 ≤ k → impl_byteReader_row.l0 k n l p x s e true = some (l, s, e, true) := fun k l p x e hk => by
      obtain ⟨k, rfl⟩ : ∃ m, k = m + 2 := ⟨k - 2, by omega⟩
      simp only [impl_byteReader_row.l0, impl_byteReader_row.j2]
      split <;> simp
    cases b with
    | false =>
      simp only [Bool.false_eq_true, if_false, false_and]
      rw [w64 (x := last + 1) (by omega), w64 (x := last + 1 + 0) (by omega), w64 (x := i + 1) (by omega)]
      by_cases h : last + 1 + 0 > 16383
      · rw [if_pos h, if_pos (show out.length < 17592186044416 by omega), stop k _ _ _ _ (by omega)]; exact ⟨_, _, rfl, fun r hr => by simp at hr⟩
      · rw [if_neg h, if_pos (show out.length < 17592186044416 by omega), stop k _ _ _ _ (by omega)]; exact ⟨_, _, rfl, fun r hr => by simp at hr⟩
    | true =>
      simp only [if_true, true_and]
      rw [w64 (x := last + 1) (by omega), w64 (x := last + 1 + g) (by omega), w64 (x := i + 1) (by omega)]
      by_cases h : last + 1 + g > 16383
      · rw [if_pos h, if_pos (show out.length < 17592186044416 by omega), stop k _ _ _ _ (by omega), if_neg (show ¬ last + 1 + g ≤ 16383 by omega)]
        exact ⟨_, _, rfl, fun r hr => by cases hr⟩
      · obtain ⟨l, e, h3, h4⟩ := ih k j (out ++ [last + 1 + g]) (last + 1 + g) (i + 1) (by omega) (by omega) (by simp; omega) (by omega) (by omega) (by omega)
        rw [if_neg h, if_pos (show out.length < 17592186044416 by omega), h3, if_pos (show last + 1 + g ≤ 16383 by omega)]
        refine ⟨l, e, ?_, fun r hr => ?_⟩
        · cases RL s d j (last + 1 + g) <;> rfl
        · obtain ⟨q, hq2, rfl⟩ := Option.map_eq_some_iff.1 hr
          have := h4 q hq2
          simpa using this
theorem iRA (k : Nat) (hk : 400 ≤ k) (s : ByteArray) (hs : s.size ≤ 140737488351232) (i : Int) : impl_RowAt.f k s i = some (RA s i) := by
  obtain ⟨k, rfl⟩ : ∃ m, k = m + 3 := ⟨k - 3, by omega⟩
  unfold impl_RowAt.f impl_byteReader_row.f RA
  rw [iNum (k + 3) (by omega) s hs]
  obtain ⟨⟨g, j, b⟩, hq⟩ : ∃ z, NA s i = z := ⟨_, rfl⟩
  have hb := NA_bound hq
  rw [hq]
  simp only [Option.bind_some]
  have stop : ∀ (k : Nat) (n : Int) (l : List Int) (p x e : Int), 2 ≤ k → impl_byteReader_row.l0 k n l p x s e true = some (l, s, e, true) := fun k n l p x e hk => by
    obtain ⟨k, rfl⟩ : ∃ m, k = m + 2 := ⟨k - 2, by omega⟩
    simp only [impl_byteReader_row.l0, impl_byteReader_row.j2]
    split <;> simp
  cases b with
  | false =>
    simp only [Bool.false_eq_true, if_false, false_and, impl_byteReader_row.j0]
    rw [if_neg (show ¬ (0 : Int) > 127 by omega), stop _ _ _ _ _ _ (by omega)]; rfl
  | true =>
    simp only [if_true, true_and, impl_byteReader_row.j0]
    by_cases h : g > 127
    · rw [if_pos h, if_neg (show ¬ g ≤ 127 by omega), stop _ _ _ _ _ _ (by omega)]; rfl
    · rw [if_neg h, if_pos (show g ≤ 127 by omega)]
      obtain ⟨l, e, h3, h4⟩ := iRL s hs g (by omega) g.toNat (k + 2) j [] (-1) 0 (by omega) (by omega) (by simp) (by omega) (by omega) (by omega)
      rw [h3]
      cases hr : RL s g.toNat j (-1) with
      | none => rfl
      | some r => obtain ⟨h5, h6⟩ := h4 r hr; subst h5; subst h6; rfl

/-- A loop over the places from i on that stops at the first place where p does not hold. -/
theorem loop_all {l : Nat → Int → Option Bool} {p : Int → Bool} {n : Int} (h : ∀ k i, 0 ≤ i → i ≤ n → l (k + 1) i = if i < n then (if p i = true then l k (i + 1) else some false) else some true) :
    ∀ (d k : Nat) (i : Int), 0 ≤ i → i + d = n → d < k → l k i = some ((List.range d).all fun j => p (i + j)) := by
  intro d
  induction d with
  | zero =>
    intro k i h0 hd hk
    obtain ⟨k, rfl⟩ : ∃ m, k = m + 1 := ⟨k - 1, by omega⟩
    rw [h k i h0 (by omega), if_neg (by omega)]; rfl
  | succ d ih =>
    intro k i h0 hd hk
    obtain ⟨k, rfl⟩ : ∃ m, k = m + 1 := ⟨k - 1, by omega⟩
    rw [h k i h0 (by omega), if_pos (by omega), List.range_succ_eq_map, List.all_cons, List.all_map]
    by_cases hp : p i = true
    · rw [if_pos hp, ih k (i + 1) (by omega) (by omega) (by omega)]
      have e : ∀ j : Nat, i + 1 + (j : Int) = i + ((j + 1 : Nat) : Int) := fun j => by omega
      simp [hp, Function.comp_def, e]
    · rw [if_neg hp]; simp at hp; simp [hp]
/-- A loop that lays f of each place, from i on, into a row as long. -/
theorem loop_set {α : Type} {l : Nat → List α → Int → Option (List α)} {f : Int → α} {n : Nat} (h : ∀ (k : Nat) (xs : List α) (i : Int), xs.length = n → 0 ≤ i → i ≤ n → l (k + 1) xs i = if i < n then l k (xs.set i.toNat (f i)) (i + 1) else some xs) :
    ∀ (d k : Nat) (xs : List α) (i : Nat), xs.length = n → i + d = n → d < k → l k xs i = some (xs.take i ++ (List.range d).map fun j => f ((i + j : Nat) : Int)) := by
  intro d
  induction d with
  | zero =>
    intro k xs i hl hd hk
    obtain ⟨k, rfl⟩ : ∃ m, k = m + 1 := ⟨k - 1, by omega⟩
    rw [h k xs i hl (by omega) (by omega), if_neg (by omega)]
    simp [List.take_of_length_le (show xs.length ≤ i by omega)]
  | succ d ih =>
    intro k xs i hl hd hk
    obtain ⟨k, rfl⟩ : ∃ m, k = m + 1 := ⟨k - 1, by omega⟩
    rw [h k xs i hl (by omega) (by omega), if_pos (by omega)]
    have e := ih k (xs.set (i : Int).toNat (f i)) (i + 1) (by simpa using hl) (by omega) (by omega)
    rw [show ((i + 1 : Nat) : Int) = (i : Int) + 1 by omega] at e
    rw [e, List.range_succ_eq_map, List.map_cons, List.map_map]
    congr 1
    rw [Int.toNat_natCast]
    have hi : i < xs.length := by omega
    rw [List.take_succ_eq_append_getElem (by simpa using hi), List.getElem_set_self, List.take_set_of_le (by omega)]
    simp [Function.comp_def, Nat.add_assoc, Nat.add_comm 1]
theorem loop_set0 {α : Type} {l : Nat → List α → Int → Option (List α)} {f : Int → α} {n : Nat} (h : ∀ (k : Nat) (xs : List α) (i : Int), xs.length = n → 0 ≤ i → i ≤ n → l (k + 1) xs i = if i < n then l k (xs.set i.toNat (f i)) (i + 1) else some xs)
    (k : Nat) (hk : n < k) (xs : List α) (hl : xs.length = n) : l k xs 0 = some ((List.range n).map fun j : Nat => f (j : Int)) := by
  have e := loop_set h n k xs 0 hl (by omega) hk
  simpa using e

theorem wpInts_self (xs : List Int) (hm : xs.length ≤ 1048576) (k : Nat) (hk : xs.length < k) : laws_wpInts.f k xs xs = some true := by
  unfold laws_wpInts.f
  rw [if_pos rfl]
  have h := loop_all (l := fun k i => laws_wpInts.l0 k xs xs i) (p := fun _ => true) (n := xs.length) (fun k i h0 h1 => by
    simp only [laws_wpInts.l0]
    by_cases c : i < (xs.length : Int)
    · simp only [c, h0, if_true, w64 (x := i + 1) (show -9223372036854775808 ≤ i + 1 ∧ i + 1 ≤ 9223372036854775807 by omega)]
    · rw [if_neg c, if_neg c]) xs.length k 0 (by omega) (by omega) hk
  rw [h]; simp

theorem ne_len {l : List Int} (h : l ≠ []) : 1 ≤ l.length := by
  rcases Nat.eq_zero_or_pos l.length with c | c
  · exact absurd (List.eq_nil_of_length_eq_zero c) h
  · exact c
theorem son_nil (l : List Int) : (strOfNums l).toList = [] ↔ l = [] := by
  constructor
  · intro h
    have h := congrArg List.length h
    rw [tlen, son_size, List.length_nil] at h
    exact List.eq_nil_of_length_eq_zero h
  · rintro rfl; decide +kernel
theorem cutFalse (a : List Int) (h : Rw a ≠ []) : (RA ((strOfNums (Rw a)).extract 0 ((Rw a).length - 1)) 0).2.2 = false := by
  have h1 := ne_len h
  rcases hb : (RA ((strOfNums (Rw a)).extract 0 ((Rw a).length - 1)) 0).2.2 with _ | _
  · rfl
  exfalso
  have e : RA ((strOfNums (Rw a)).extract 0 ((Rw a).length - 1)) 0 = ((RA ((strOfNums (Rw a)).extract 0 ((Rw a).length - 1)) 0).1, (RA ((strOfNums (Rw a)).extract 0 ((Rw a).length - 1)) 0).2.1, true) := by rw [← hb]
  obtain ⟨r1, r2, r3, r4, r5⟩ := RA_back e
  generalize (RA ((strOfNums (Rw a)).extract 0 ((Rw a).length - 1)) 0).1 = l at *
  rw [ByteArray.size_extract, son_size] at r4
  have f := RA_of (s := strOfNums (Rw a)) (l := l) (i := 0) r1 ⟨by omega, by rw [son_size]; omega, fun m hm => by
    have := r5 m hm
    rw [Int.zero_add, bt_cut (by omega) (by rw [son_size]; omega)] at this
    rw [← this, Int.zero_add]; congr 1; omega⟩
  have g := RA_of (s := strOfNums (Rw a)) (l := a) (i := 0) h ⟨by omega, by rw [son_size]; omega, fun m hm => by rw [Int.zero_add, bt_son (Rw_byte a) (by omega)]⟩
  rw [g] at f
  simp only [Prod.mk.injEq] at f
  omega
theorem last1 (k : Nat) (hk : 710 ≤ k) (a b : List Int) (ha : a.length ≤ 6) (hb : b.length ≤ 6) :
    laws_FnPackRowCut.j1 k a b (strOfNums (Rw a)) (strOfNums (Rw b)) (if Rw a = [] then true else ((strOfNums (Rw b)).toList == [])) = some true := by
  obtain ⟨k, rfl⟩ : ∃ m, k = m + 1 := ⟨k - 1, by omega⟩
  have ra := Rw_len a
  have rb := Rw_len b
  simp only [laws_FnPackRowCut.j1]
  by_cases c : (if Rw a = [] then true else ((strOfNums (Rw b)).toList == [])) = true
  · rw [if_pos c, sRow k a (by omega) (by omega), sRow k b (by omega) (by omega)]
    simp
  · rw [if_neg c]
    have c1 : Rw a ≠ [] := fun h => c (by rw [if_pos h])
    rw [if_neg c1] at c
    have c2 : Rw b ≠ [] := fun h => c (by rw [beq_iff_eq]; exact (son_nil _).2 h)
    have h1 := ne_len c1
    have h2 := ne_len c2
    have e1 := RA_of c1 (Bs_son (Rw_byte a) (strOfNums (Rw b)))
    have e2 := RA_of (s := strOfNums (Rw a) ++ strOfNums (Rw b)) (i := (Rw a).length) c2 ⟨by omega, by rw [ByteArray.size_append, son_size, son_size]; omega, fun m hm => by
      rw [bt_appR (by rw [son_size]; omega), son_size, bt_son (Rw_byte b) (by omega)]; congr 1; omega⟩
    simp only [Int.zero_add] at e1
    simp only [son_size]
    rw [w64 (x := ((Rw a).length : Int) - 1) (by omega), w64 (x := ((Rw a).length : Int) + (Rw b).length) (by omega), if_pos (by omega), if_pos (by omega), show (((Rw a).length : Int) - 1).toNat = (Rw a).length - 1 by omega,
      iRA k (by omega) _ (by rw [ByteArray.size_extract, son_size]; omega)]
    simp only [Option.bind_some]
    rw [if_pos (by omega), iRA k (by omega) _ (by rw [ByteArray.size_append, son_size, son_size]; omega), e1]
    simp only [Option.bind_some]
    rw [iRA k (by omega) _ (by rw [ByteArray.size_append, son_size, son_size]; omega), e2, cutFalse a c1]
    simp only [Option.bind_some, if_true, Bool.false_eq_true, if_false, wpInts_self a (by omega) k (by omega), wpInts_self b (by omega) k (by omega)]
    simp
theorem FnPackRowCut : laws_FnPackRowCut.Pure := by
  intro l0 l1 _ b0 _ b1
  refine ⟨801, ?_⟩
  unfold laws_FnPackRowCut.f
  by_cases g0 : (l0.length : Int) > 1048576
  · rw [if_pos g0]; simp [laws_FnPackRowCut.j0]
  rw [if_neg g0]
  by_cases g1 : (l1.length : Int) > 1048576
  · simp [laws_FnPackRowCut.j0, g1]
  obtain ⟨a, h0, ha, hw⟩ := drawRow 800 (by decide) l0 b0
  obtain ⟨b, h1, hb, hv⟩ := drawRow 800 (by decide) l1 b1
  rw [decide_eq_false g1]
  simp only [laws_FnPackRowCut.j0, Bool.false_eq_true, if_false, h0, h1, Option.bind_some, iRow 800 (by decide) a (by omega) (fun y hy => by have := hw y hy; omega), iRow 800 (by decide) b (by omega) (fun y hy => by have := hv y hy; omega), sRow 800 a (by omega) (by omega), sRow 800 b (by omega) (by omega), if_true]
  have h := last1 800 (by decide) a b ha hb
  by_cases c : Rw a = []
  · rw [if_pos ((son_nil _).2 c)]; rw [if_pos c] at h; exact h
  · rw [if_neg (fun g => c ((son_nil _).1 g))]; rw [if_neg c] at h; exact h

end Go.Proofs.Ytomkkhkfenmdlaa.Pure
