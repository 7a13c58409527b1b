/- The plain law behind FnExactPackRow: of every list both functions make the same bytes, and leave it as it was. -/
import Derived.Test.YteilpkckaecomaaPFnExactPackRowx2
namespace Go.Proofs.Yteilpkckaecomaa.Pure
open Go.RowKit Go.Proofs.Yteilpkckaecomaa.PFnExactPackRow Go.Proofs.YteilpkckaecomaaW.PrintWords Go.Proofs.YteilpkckaecomaaW.PrintLast
set_option linter.unusedSimpArgs false
set_option linter.unusedVariables false

theorem w64 {x : Int} (h : -9223372036854775808 ≤ x ∧ x ≤ 9223372036854775807) : wrap64 x = x := by unfold wrap64; omega
theorem rdB {b : List Int} (hb : ∀ x ∈ b, 0 ≤ x ∧ x ≤ 255) (i : Int) : 0 ≤ rd b i ∧ rd b i ≤ 255 := by
  unfold rd
  rw [List.getD_eq_getElem?_getD]
  cases h : b[i.toNat]? with
  | none => simp
  | some v => exact hb v (List.mem_of_getElem? h)
theorem u8B {l : List Int} (h : ∀ x ∈ l, (Lit.int .u8 x).wf = true) : ∀ x ∈ l, 0 ≤ x ∧ x ≤ 255 := fun x hx => by
  have := h x hx
  simp [Lit.wf, IntKind.min, IntKind.max, IntKind.signed, IntKind.bits] at this
  omega

/-- The bytes of a number. -/
def Pk (n : Int) : List Int := if n < 0 ∨ n > 16383 then [] else if n < 128 then [n] else [128 + n / 128, n % 128]
theorem Pk_len (n : Int) : (Pk n).length ≤ 2 := by
  unfold Pk
  split
  · simp
  · split <;> simp
theorem iApp (k : Nat) (hk : 1 ≤ k) (l : List Int) (hl : l.length ≤ 1000000) (n : Int) : impl_appendNum.f k l n = some (l ++ Pk n) := by
  obtain ⟨k, rfl⟩ : ∃ m, k = m + 1 := ⟨k - 1, by omega⟩
  unfold impl_appendNum.f Pk
  by_cases h0 : n < 0
  · rw [if_pos h0, if_pos (.inl h0)]; simp [impl_appendNum.j0]
  · rw [if_neg h0]
    by_cases h1 : n > 16383
    · rw [if_pos (.inr h1)]; simp [impl_appendNum.j0, h1]
    · rw [if_neg (by omega)]
      by_cases h2 : n < 128
      · simp only [impl_appendNum.j0, decide_eq_true_eq]
        rw [if_neg h1, if_pos h2, if_pos h2, if_pos (by omega), Int.emod_eq_of_lt (show 0 ≤ n by omega) (show n < 256 by omega)]
      · have d1 : Int.tdiv n 128 = n / 128 := Int.tdiv_eq_ediv_of_nonneg (by omega)
        have d2 : Int.tmod n 128 = n % 128 := Int.tmod_eq_emod_of_nonneg (by omega)
        simp only [impl_appendNum.j0, d1, d2, w64 (x := n / 128) (by omega), w64 (x := 128 + n / 128) (by omega), decide_eq_true_eq]
        rw [if_neg h1, if_neg h2, if_neg h2]
        simp only [Option.bind_some]
        rw [if_pos (by simp; omega), Int.emod_eq_of_lt (show 0 ≤ 128 + n / 128 by omega) (show 128 + n / 128 < 256 by omega), Int.emod_eq_of_lt (show 0 ≤ n % 128 by omega) (show n % 128 < 256 by omega)]
theorem sPk (k : Nat) (hk : 1 ≤ k) (n : Int) : spec_PackNum.f k n = some (strOfNums (Pk n)) := by
  obtain ⟨k, rfl⟩ : ∃ m, k = m + 1 := ⟨k - 1, by omega⟩
  unfold spec_PackNum.f Pk
  by_cases h0 : n < 0
  · rw [if_pos h0, if_pos (.inl h0)]; simp [spec_PackNum.j0, strOfNums]
  · rw [if_neg h0]
    by_cases h1 : n > 16383
    · rw [if_pos (.inr h1)]; simp [spec_PackNum.j0, h1, strOfNums]
    · rw [if_neg (by omega)]
      by_cases h2 : n < 128
      · simp [spec_PackNum.j0, h1, h2, Int.emod_eq_of_lt (show 0 ≤ n by omega) (show n < 256 by omega)]
      · have d1 : Int.tdiv n 128 = n / 128 := Int.tdiv_eq_ediv_of_nonneg (by omega)
        have d2 : Int.tmod n 128 = n % 128 := Int.tmod_eq_emod_of_nonneg (by omega)
        simp only [spec_PackNum.j0, d1, d2, w64 (x := n / 128) (by omega), w64 (x := 128 + n / 128) (by omega)]
        simp [h1, h2, Int.emod_eq_of_lt (show 0 ≤ 128 + n / 128 by omega) (show 128 + n / 128 < 256 by omega), Int.emod_eq_of_lt (show 0 ≤ n % 128 by omega) (show n % 128 < 256 by omega)]
theorem son_app (a b : List Int) : strOfNums (a ++ b) = strOfNums a ++ strOfNums b := by
  simp [strOfNums, ByteArray.ext_iff]
theorem son_size (a : List Int) : (strOfNums a).size = a.length := by simp [strOfNums, ByteArray.size]
/-- The gaps' bytes of a list, from a number on. -/
def Gp : Int → List Int → List Int
  | _, [] => []
  | last, x :: xs => Pk (x - last - 1) ++ Gp x xs
/-- It ascends from a number on, up to the greatest. -/
def Up : Int → List Int → Bool
  | _, [] => true
  | last, x :: xs => decide (last < x) && (decide (x ≤ 16383) && Up x xs)
theorem Up_cons {last x : Int} {xs : List Int} : Up last (x :: xs) = true ↔ last < x ∧ x ≤ 16383 ∧ Up x xs = true := by simp [Up]
theorem Gp_len : ∀ (last : Int) (l : List Int), (Gp last l).length ≤ 2 * l.length
  | _, [] => by simp [Gp]
  | last, x :: xs => by have := Pk_len (x - last - 1); have := Gp_len x xs; simp [Gp]; omega
/-- The bytes of a row. -/
def Rw (l : List Int) : List Int := if l.length ≤ 127 ∧ Up (-1) l = true then Pk l.length ++ Gp (-1) l else []

theorem rd_at {xs : List Int} {i : Nat} (h : i < xs.length) : rd xs (i : Int) = xs[i] := by
  unfold rd; rw [Int.toNat_natCast, List.getD_eq_getElem?_getD, List.getElem?_eq_getElem h]; rfl
theorem iRow_l0 (xs : List Int) (hx : xs.length ≤ 127) (hw : ∀ x ∈ xs, -9223372036854775808 ≤ x ∧ x ≤ 9223372036854775807) : ∀ (d k : Nat) (out : List Int) (last : Int) (i : Nat), i + d = xs.length → out.length ≤ 2 * i + 2 → -1 ≤ last → last ≤ 16383 → d + 1 < k →
    impl_PackRow.l0 k out last xs xs.length i = some (if Up last (xs.drop i) = true then strOfNums (out ++ Gp last (xs.drop i)) else ⟨#[]⟩) := by
  intro d
  induction d with
  | zero =>
    intro k out last i hd ho h0 h1 hk
    obtain ⟨k, rfl⟩ : ∃ m, k = m + 1 := ⟨k - 1, by omega⟩
    simp only [impl_PackRow.l0]
    rw [if_neg (by omega), List.drop_of_length_le (by omega)]; simp [Up, Gp]
  | succ d ih =>
    intro k out last i hd ho h0 h1 hk
    obtain ⟨k, rfl⟩ : ∃ m, k = m + 1 := ⟨k - 1, by omega⟩
    have hi : i < xs.length := by omega
    have hwi := hw _ (List.getElem_mem hi)
    simp only [impl_PackRow.l0]
    rw [if_pos (by omega), if_pos (by omega), if_pos (by omega), rd_at hi, List.drop_eq_getElem_cons hi]
    simp only [Gp]
    generalize xs[i] = x at *
    by_cases c1 : x ≤ last
    · rw [if_pos c1, if_neg (fun h => by have := Up_cons.1 h; omega)]
    · rw [if_neg c1]
      by_cases c2 : x > 16383
      · rw [if_pos c2, if_neg (fun h => by have := Up_cons.1 h; omega)]
      · rw [if_neg c2, w64 (x := x - last) (by omega), w64 (x := x - last - 1) (by omega), iApp k (by omega) out (by omega), w64 (x := (i : Int) + 1) (by omega)]
        simp only [Option.bind_some]
        have hp := Pk_len (x - last - 1)
        have := ih k (out ++ Pk (x - last - 1)) x (i + 1) (by omega) (by simp; omega) (by omega) (by omega) (by omega)
        rw [show ((i + 1 : Nat) : Int) = (i : Int) + 1 by omega] at this
        rw [this]
        by_cases u : Up x (xs.drop (i + 1)) = true
        · rw [if_pos u, if_pos (Up_cons.2 ⟨by omega, by omega, u⟩), List.append_assoc]
        · rw [if_neg u, if_neg (fun h => u (Up_cons.1 h).2.2)]
theorem iRow (k : Nat) (hk : 200 ≤ k) (xs : List Int) (hm : xs.length ≤ 1048576) (hw : ∀ x ∈ xs, -9223372036854775808 ≤ x ∧ x ≤ 9223372036854775807) : impl_PackRow.f k xs = some (strOfNums (Rw xs)) := by
  unfold impl_PackRow.f Rw
  by_cases h : (xs.length : Int) > 127
  · rw [if_pos h, if_neg (by omega)]; simp [strOfNums]
  · rw [if_neg h, iApp k (by omega) [] (by simp)]
    simp only [Option.bind_some, List.nil_append]
    have hp := Pk_len xs.length
    have := iRow_l0 xs (by omega) hw xs.length k (Pk xs.length) (-1) 0 (by omega) (by omega) (by omega) (by omega) (by omega)
    simp only [List.drop_zero] at this
    rw [show ((0 : Nat) : Int) = 0 from rfl] at this
    rw [this]
    by_cases u : Up (-1) xs = true
    · rw [if_pos u, if_pos ⟨by omega, u⟩]
    · rw [if_neg u, if_neg (fun h => u h.2)]; simp [strOfNums]

theorem sUp_l0 (xs : List Int) (hm : xs.length ≤ 1048576) : ∀ (d k : Nat) (i : Nat) (last : Int), i + d = xs.length → (i = 0 ∧ last = -1 ∨ 0 < i ∧ last = rd xs ((i : Int) - 1) ∧ 0 ≤ last) → d < k →
    spec_l4Up.l0 k xs i = some (Up last (xs.drop i) && decide ((xs.length : Int) ≤ 127)) := by
  intro d
  induction d with
  | zero =>
    intro k i last hd hl hk
    obtain ⟨k, rfl⟩ : ∃ m, k = m + 1 := ⟨k - 1, by omega⟩
    simp only [spec_l4Up.l0]
    rw [if_neg (by omega), List.drop_of_length_le (by omega)]; simp [Up]
  | succ d ih =>
    intro k i last hd hl hk
    obtain ⟨k, rfl⟩ : ∃ m, k = m + 1 := ⟨k - 1, by omega⟩
    have hi : i < xs.length := by omega
    simp only [spec_l4Up.l0]
    rw [if_pos (by omega), if_pos (by omega), List.drop_eq_getElem_cons hi]
    have er := rd_at hi
    have ih' := ih k (i + 1) xs[i] (by omega)
    rw [show ((i + 1 : Nat) : Int) - 1 = (i : Int) by omega, show ((i + 1 : Nat) : Int) = (i : Int) + 1 by omega] at ih'
    rw [er] at ih' ⊢
    simp only [Up]
    generalize xs[i] = x at *
    by_cases c1 : x < 0
    · rw [if_pos c1, decide_eq_false (show ¬ last < x by omega)]; simp
    · rw [if_neg c1]
      by_cases c2 : x > 16383
      · rw [if_pos c2, decide_eq_false (show ¬ x ≤ 16383 by omega)]; simp
      · rw [if_neg c2, decide_eq_true (show x ≤ 16383 by omega), w64 (x := (i : Int) + 1) (by omega), w64 (x := (i : Int) - 1) (by omega)]
        rcases hl with ⟨h0, hl⟩ | ⟨h0, hl, hl0⟩
        · rw [if_neg (by omega), decide_eq_true (show last < x by omega), ih' (.inr ⟨by omega, rfl, by omega⟩) (by omega)]; simp
        · rw [if_pos (by omega), if_pos (by omega), if_pos (by omega), ← hl]
          by_cases c3 : last ≥ x
          · rw [if_pos c3, decide_eq_false (by omega)]; simp
          · rw [if_neg c3, decide_eq_true (show last < x by omega), ih' (.inr ⟨by omega, rfl, by omega⟩) (by omega)]; simp
theorem sRow_l0 (xs : List Int) (hx : xs.length ≤ 127) : ∀ (d k : Nat) (out : ByteArray) (last : Int) (i : Nat), i + d = xs.length → out.size ≤ 2 * i + 2 → -1 ≤ last → last ≤ 16383 → Up last (xs.drop i) = true → d + 1 < k →
    spec_PackRow.l0 k xs out last i = some (out ++ strOfNums (Gp last (xs.drop i))) := by
  intro d
  induction d with
  | zero =>
    intro k out last i hd ho h0 h1 hu hk
    obtain ⟨k, rfl⟩ : ∃ m, k = m + 1 := ⟨k - 1, by omega⟩
    simp only [spec_PackRow.l0]
    rw [if_neg (by omega), List.drop_of_length_le (by omega)]; simp [Gp, strOfNums, ByteArray.ext_iff]
  | succ d ih =>
    intro k out last i hd ho h0 h1 hu hk
    obtain ⟨k, rfl⟩ : ∃ m, k = m + 1 := ⟨k - 1, by omega⟩
    have hi : i < xs.length := by omega
    simp only [spec_PackRow.l0]
    rw [if_pos (by omega), if_pos (by omega), rd_at hi]
    rw [List.drop_eq_getElem_cons hi] at hu ⊢
    simp only [Up, Bool.and_eq_true, decide_eq_true_eq] at hu
    simp only [Gp]
    generalize xs[i] = x at *
    obtain ⟨u1, u2, u3⟩ := hu
    rw [w64 (x := x - last) (by omega), w64 (x := x - last - 1) (by omega), sPk k (by omega), w64 (x := (i : Int) + 1) (by omega)]
    simp only [Option.bind_some]
    have hp := Pk_len (x - last - 1)
    rw [if_pos (by rw [son_size]; omega)]
    have := ih k (out ++ strOfNums (Pk (x - last - 1))) x (i + 1) (by omega) (by rw [ByteArray.size_append, son_size]; omega) (by omega) (by omega) u3 (by omega)
    rw [show ((i + 1 : Nat) : Int) = (i : Int) + 1 by omega] at this
    rw [this, son_app, ByteArray.append_assoc]
theorem sRow (k : Nat) (xs : List Int) (hm : xs.length ≤ 1048576) (hk : xs.length + 200 ≤ k) : spec_PackRow.f k xs = some (strOfNums (Rw xs)) := by
  unfold spec_PackRow.f spec_l4Up.f Rw
  have hu := sUp_l0 xs hm xs.length k 0 (-1) (by omega) (.inl ⟨rfl, rfl⟩) (by omega)
  simp only [List.drop_zero] at hu
  rw [show ((0 : Nat) : Int) = 0 from rfl] at hu
  rw [hu]
  simp only [Option.bind_some]
  by_cases h : xs.length ≤ 127 ∧ Up (-1) xs = true
  · rw [if_pos (by rw [h.2, decide_eq_true (by omega)]; rfl), if_pos h, sPk k (by omega)]
    simp only [Option.bind_some]
    have hp := Pk_len xs.length
    have := sRow_l0 xs h.1 xs.length k (strOfNums (Pk xs.length)) (-1) 0 (by omega) (by rw [son_size]; omega) (by omega) (by omega) (by simpa using h.2) (by omega)
    rw [show ((0 : Nat) : Int) = 0 from rfl] at this
    rw [this, son_app]; simp
  · rw [if_neg, if_neg h]
    · simp [strOfNums]
    · intro hh
      simp at hh
      exact h ⟨by omega, hh.1⟩

/-- A loop over the places from i on that stops at the first place where p does not hold. -/
theorem loop_all {l : Nat → Int → Option Bool} {p : Int → Bool} {n : Int} (h : ∀ k i, 0 ≤ i → i ≤ n → l (k + 1) i = if i < n then (if p i = true then l k (i + 1) else some false) else some true) :
    ∀ (d k : Nat) (i : Int), 0 ≤ i → i + d = n → d < k → l k i = some ((List.range d).all fun j => p (i + j)) := by
  intro d
  induction d with
  | zero =>
    intro k i h0 hd hk
    obtain ⟨k, rfl⟩ : ∃ m, k = m + 1 := ⟨k - 1, by omega⟩
    rw [h k i h0 (by omega), if_neg (by omega)]; rfl
  | succ d ih =>
    intro k i h0 hd hk
    obtain ⟨k, rfl⟩ : ∃ m, k = m + 1 := ⟨k - 1, by omega⟩
    rw [h k i h0 (by omega), if_pos (by omega), List.range_succ_eq_map, List.all_cons, List.all_map]
    by_cases hp : p i = true
    · rw [if_pos hp, ih k (i + 1) (by omega) (by omega) (by omega)]
      have e : ∀ j : Nat, i + 1 + (j : Int) = i + ((j + 1 : Nat) : Int) := fun j => by omega
      simp [hp, Function.comp_def, e]
    · rw [if_neg hp]; simp at hp; simp [hp]
/-- A loop that lays f of each place, from i on, into a row as long. -/
theorem loop_set {α : Type} {l : Nat → List α → Int → Option (List α)} {f : Int → α} {n : Nat} (h : ∀ (k : Nat) (xs : List α) (i : Int), xs.length = n → 0 ≤ i → i ≤ n → l (k + 1) xs i = if i < n then l k (xs.set i.toNat (f i)) (i + 1) else some xs) :
    ∀ (d k : Nat) (xs : List α) (i : Nat), xs.length = n → i + d = n → d < k → l k xs i = some (xs.take i ++ (List.range d).map fun j => f ((i + j : Nat) : Int)) := by
  intro d
  induction d with
  | zero =>
    intro k xs i hl hd hk
    obtain ⟨k, rfl⟩ : ∃ m, k = m + 1 := ⟨k - 1, by omega⟩
    rw [h k xs i hl (by omega) (by omega), if_neg (by omega)]
    simp [List.take_of_length_le (show xs.length ≤ i by omega)]
  | succ d ih =>
    intro k xs i hl hd hk
    obtain ⟨k, rfl⟩ : ∃ m, k = m + 1 := ⟨k - 1, by omega⟩
    rw [h k xs i hl (by omega) (by omega), if_pos (by omega)]
    have e := ih k (xs.set (i : Int).toNat (f i)) (i + 1) (by simpa using hl) (by omega) (by omega)
    rw [show ((i + 1 : Nat) : Int) = (i : Int) + 1 by omega] at e
    rw [e, List.range_succ_eq_map, List.map_cons, List.map_map]
    congr 1
    rw [Int.toNat_natCast]
    have hi : i < xs.length := by omega
    rw [List.take_succ_eq_append_getElem (by simpa using hi), List.getElem_set_self, List.take_set_of_le (by omega)]
    simp [Function.comp_def, Nat.add_assoc, Nat.add_comm 1]
theorem loop_set0 {α : Type} {l : Nat → List α → Int → Option (List α)} {f : Int → α} {n : Nat} (h : ∀ (k : Nat) (xs : List α) (i : Int), xs.length = n → 0 ≤ i → i ≤ n → l (k + 1) xs i = if i < n then l k (xs.set i.toNat (f i)) (i + 1) else some xs)
    (k : Nat) (hk : n < k) (xs : List α) (hl : xs.length = n) : l k xs 0 = some ((List.range n).map fun j : Nat => f (j : Int)) := by
  have e := loop_set h n k xs 0 hl (by omega) hk
  simpa using e

theorem eqInt_self (xs : List Int) (hm : xs.length ≤ 1048576) (k : Nat) (hk : xs.length < k) : laws_eqIntS.f k xs xs = some true := by
  unfold laws_eqIntS.f
  rw [if_pos rfl]
  have h := loop_all (l := fun k i => laws_eqIntS.l0 k xs xs i) (p := fun _ => true) (n := xs.length) (fun k i h0 h1 => by
    show laws_eqIntS.l0 (k + 1) xs xs i = _
    simp only [laws_eqIntS.l0, if_true]
    by_cases h : i < (xs.length : Int)
    · rw [if_pos h, if_pos h, if_pos h0, if_pos h, w64 (x := i + 1) (by omega)]
    · rw [if_neg h, if_neg h]) xs.length k 0 (by omega) (by omega) hk
  rw [h]; simp

theorem toIntS_ok (l : List Int) (hm : l.length ≤ 1048576) (k : Nat) (hk : l.length < k) : laws_toIntS.f k l = some l := by
  unfold laws_toIntS.f
  rw [if_pos (by omega), if_pos (by omega)]
  have h := loop_set0 (l := fun k xs i => laws_toIntS.l0 k l xs i) (f := fun i => rd l i) (n := l.length) (fun k xs i hl h0 h1 => by
    show laws_toIntS.l0 (k + 1) l xs i = _
    simp only [laws_toIntS.l0]
    by_cases h : i < (l.length : Int)
    · rw [if_pos h, if_pos h, if_pos h0, if_pos (by omega), w64 (x := i + 1) (by omega)]
    · rw [if_neg h, if_neg h]) k hk (List.replicate ((l.length : Int) : Int).toNat 0) (by simp)
  rw [h]
  congr 1
  apply List.ext_getElem (by simp)
  intro j h1 h2
  simp at h1
  simp [rd, List.getD_eq_getElem?_getD, h1]
theorem i64B {l : List Int} (h : ∀ x ∈ l, (Lit.int .i64 x).wf = true) : ∀ x ∈ l, -9223372036854775808 ≤ x ∧ x ≤ 9223372036854775807 := fun x hx => by
  have := h x hx
  simp [Lit.wf, IntKind.min, IntKind.max, IntKind.signed, IntKind.bits] at this
  omega

theorem FnExactPackRow : laws_FnExactPackRow.Pure := by
  intro l _ _ w
  refine ⟨l.length + 200, ?_⟩
  unfold laws_FnExactPackRow.f
  by_cases h : (l.length : Int) > 1048576
  · rw [if_pos h]
  rw [if_neg h]
  have hm : l.length ≤ 1048576 := by omega
  simp only [toIntS_ok l hm (l.length + 200) (by omega), Option.bind_some, sRow (l.length + 200) l hm (by omega), iRow (l.length + 200) (by omega) l hm (i64B w), if_true, eqInt_self l hm (l.length + 200) (by omega)]

end Go.Proofs.Yteilpkckaecomaa.Pure
