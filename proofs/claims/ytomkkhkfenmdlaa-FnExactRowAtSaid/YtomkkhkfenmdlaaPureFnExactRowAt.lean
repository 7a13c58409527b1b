/- The plain law behind FnExactRowAt: of every text and place both functions tell the same, in memory of its own. -/
import Derived.Test.YtomkkhkfenmdlaaQFnExactRowAtOpen
namespace Go.Proofs.Ytomkkhkfenmdlaa.Pure
open Go.RowKit Go.Proofs.Ytomkkhkfenmdlaa.QFnExactRowAt Go.Proofs.YtomkkhkfenmdlaaW.PrintWords Go.Proofs.YtomkkhkfenmdlaaW.PrintLast
set_option linter.unusedSimpArgs false
set_option linter.unusedVariables false

theorem w64 {x : Int} (h : -9223372036854775808 ≤ x ∧ x ≤ 9223372036854775807) : wrap64 x = x := by unfold wrap64; omega
theorem rdB {b : List Int} (hb : ∀ x ∈ b, 0 ≤ x ∧ x ≤ 255) (i : Int) : 0 ≤ rd b i ∧ rd b i ≤ 255 := by
  unfold rd
  rw [List.getD_eq_getElem?_getD]
  cases h : b[i.toNat]? with
  | none => simp
  | some v => exact hb v (List.mem_of_getElem? h)
theorem u8B {l : List Int} (h : ∀ x ∈ l, (Lit.int .u8 x).wf = true) : ∀ x ∈ l, 0 ≤ x ∧ x ≤ 255 := fun x hx => by
  have := h x hx
  simp [Lit.wf, IntKind.min, IntKind.max, IntKind.signed, IntKind.bits] at this
  omega

/-- The number whose bytes stand somewhere. -/
def NA (s : ByteArray) (i : Int) : Int × Int × Bool :=
  if i < 0 ∨ i ≥ s.size then (0, 0, false) else if bt s i < 128 then (bt s i, i + 1, true) else if bt s i = 128 ∨ i + 1 ≥ s.size then (0, 0, false) else
  if bt s (i + 1) ≥ 128 then (0, 0, false) else ((bt s i - 128) * 128 + bt s (i + 1), i + 2, true)
theorem NA_bound {s : ByteArray} {i n j : Int} {b : Bool} (h : NA s i = (n, j, b)) : 0 ≤ n ∧ n ≤ 16383 ∧ (b = true → 0 ≤ i ∧ i < j ∧ j ≤ s.size) ∧ (b = false → n = 0 ∧ j = 0) := by
  have h0 := bt_range s i
  have h1 := bt_range s (i + 1)
  unfold NA at h
  split at h
  · simp only [Prod.mk.injEq] at h; obtain ⟨rfl, rfl, rfl⟩ := h; simp
  · split at h
    · simp only [Prod.mk.injEq] at h; obtain ⟨rfl, rfl, rfl⟩ := h; refine ⟨by omega, by omega, fun _ => by omega, fun h => by cases h⟩
    · split at h
      · simp only [Prod.mk.injEq] at h; obtain ⟨rfl, rfl, rfl⟩ := h; simp
      · split at h
        · simp only [Prod.mk.injEq] at h; obtain ⟨rfl, rfl, rfl⟩ := h; simp
        · simp only [Prod.mk.injEq] at h; obtain ⟨rfl, rfl, rfl⟩ := h; refine ⟨by omega, by omega, fun _ => by omega, fun h => by cases h⟩

theorem sNA (k : Nat) (hk : 2 ≤ k) (s : ByteArray) (i : Int) (hs : s.size ≤ 140737488351232) : spec_NumAt.f k s i = some (NA s i) := by
  obtain ⟨k, rfl⟩ : ∃ m, k = m + 1 := ⟨k - 1, by omega⟩
  unfold spec_NumAt.f NA
  by_cases h0 : i < 0
  · rw [if_pos h0, if_pos (.inl h0)]; simp [spec_NumAt.j0]
  · rw [if_neg h0]
    by_cases h1 : i ≥ (s.size : Int)
    · rw [if_pos (.inr h1)]; simp [spec_NumAt.j0, h1]
    · have b0 := bt_range s i
      have b1 := bt_range s (i + 1)
      rw [if_neg (by omega)]
      simp only [spec_NumAt.j0, decide_eq_true_eq, w64 (x := i + 1) (by omega), w64 (x := i + 2) (by omega), w64 (x := bt s i) (by omega), w64 (x := bt s (i + 1)) (by omega)]
      rw [if_neg h1, if_pos (by omega), if_pos (by omega)]
      by_cases h2 : bt s i < 128
      · rw [if_pos h2, if_pos h2]
      · rw [if_neg h2, if_neg h2]
        by_cases h4 : i + 1 ≥ (s.size : Int)
        · rw [if_pos h4, if_pos (.inr h4)]
        · rw [if_neg h4]
          by_cases h3 : bt s i = 128
          · rw [if_pos h3, if_pos (.inl h3)]
          · rw [if_neg h3, if_pos (show 0 ≤ i + 1 by omega), if_pos (show i + 1 < (s.size : Int) by omega), if_neg (show ¬ (bt s i = 128 ∨ i + 1 ≥ (s.size : Int)) by omega)]
            by_cases h5 : bt s (i + 1) ≥ 128
            · rw [if_pos (show bt s (i + 1) > 127 by omega), if_pos h5]
            · rw [if_neg (show ¬ bt s (i + 1) > 127 by omega), if_neg h5, w64 (x := bt s i - 128) (by omega), w64 (x := (bt s i - 128) * 128) (by omega), w64 (x := (bt s i - 128) * 128 + bt s (i + 1)) (by omega)]

/-- So many gaps, read from a place on. -/
def RL (s : ByteArray) : Nat → Int → Int → Option (List Int × Int)
  | 0, at_, _ => some ([], at_)
  | c + 1, at_, last => if (NA s at_).2.2 = true ∧ last + 1 + (NA s at_).1 ≤ 16383 then (RL s c (NA s at_).2.1 (last + 1 + (NA s at_).1)).map fun r => ((last + 1 + (NA s at_).1) :: r.1, r.2) else none
/-- The list whose bytes stand somewhere. -/
def RA (s : ByteArray) (i : Int) : List Int × Int × Bool :=
  if (NA s i).2.2 = true ∧ (NA s i).1 ≤ 127 then (match RL s (NA s i).1.toNat (NA s i).2.1 (-1) with | some r => (r.1, r.2, true) | none => ([], 0, false)) else ([], 0, false)
theorem RL_len : ∀ (s : ByteArray) (c : Nat) (i last : Int) (r : List Int × Int), RL s c i last = some r → r.1.length = c
  | s, 0, i, last, r, h => by simp [RL] at h; subst h; rfl
  | s, c + 1, i, last, r, h => by
    unfold RL at h
    split at h
    · obtain ⟨q, hq, rfl⟩ := Option.map_eq_some_iff.1 h
      have := RL_len s c _ _ q hq
      simp [this]
    · cases h
theorem RA_len (s : ByteArray) (i : Int) : (RA s i).1.length ≤ 127 := by
  unfold RA
  split
  · rename_i h
    split
    · rename_i r hr; have := RL_len _ _ _ _ _ hr; simp only; omega
    · simp
  · simp

theorem sRA_l0 (s : ByteArray) (hs : s.size ≤ 140737488351232) (n : Int) (hn : n ≤ 127) : ∀ (d k : Nat) (at_ : Int) (out : List Int) (last : Int) (i : Int), 0 ≤ i → i + d = n → out.length ≤ i → -1 ≤ last → last ≤ 16383 → d + 2 < k →
    spec_RowAt.l0 k s n at_ out last i = some (match RL s d at_ last with | some r => (out ++ r.1, r.2, true) | none => ([], 0, false)) := by
  intro d
  induction d with
  | zero =>
    intro k at_ out last i hi hd ho h0 h1 hk
    obtain ⟨k, rfl⟩ : ∃ m, k = m + 1 := ⟨k - 1, by omega⟩
    simp only [spec_RowAt.l0]
    rw [if_neg (by omega)]; simp [RL]
  | succ d ih =>
    intro k at_ out last i hi hd ho h0 h1 hk
    obtain ⟨k, rfl⟩ : ∃ m, k = m + 1 := ⟨k - 1, by omega⟩
    simp only [spec_RowAt.l0]
    rw [if_pos (by omega), sNA k (by omega) s at_ hs]
    simp only [Option.bind_some, RL]
    obtain ⟨⟨g, j, b⟩, hq⟩ : ∃ z, NA s at_ = z := ⟨_, rfl⟩
    have hb := NA_bound hq
    rw [hq]
    simp only
    cases b with
    | false => simp
    | true =>
      rw [if_pos rfl, w64 (x := last + 1) (by omega), w64 (x := last + 1 + g) (by omega), w64 (x := i + 1) (by omega)]
      by_cases h : last + 1 + g > 16383
      · rw [if_pos h, if_neg (by simp; omega)]
      · rw [if_neg h, if_pos (by omega), if_pos ⟨rfl, by omega⟩, ih k j _ _ (i + 1) (by omega) (by omega) (by simp; omega) (by omega) (by omega) (by omega)]
        cases RL s d j (last + 1 + g) <;> simp
theorem sRA (k : Nat) (hk : 200 ≤ k) (s : ByteArray) (hs : s.size ≤ 140737488351232) (i : Int) : spec_RowAt.f k s i = some (RA s i) := by
  obtain ⟨k, rfl⟩ : ∃ m, k = m + 1 := ⟨k - 1, by omega⟩
  unfold spec_RowAt.f RA
  rw [sNA (k + 1) (by omega) s i hs]
  simp only [Option.bind_some]
  obtain ⟨⟨g, j, b⟩, hq⟩ : ∃ z, NA s i = z := ⟨_, rfl⟩
  have hb := NA_bound hq
  rw [hq]
  simp only
  cases b with
  | false => simp [spec_RowAt.j0]
  | true =>
    rw [if_pos rfl]
    by_cases h : g > 127
    · rw [decide_eq_true h, if_neg (by simp; omega)]; simp [spec_RowAt.j0]
    · rw [decide_eq_false h, if_pos ⟨rfl, by omega⟩]
      simp only [spec_RowAt.j0, Bool.false_eq_true, if_false]
      rw [sRA_l0 s hs g (by omega) g.toNat k j [] (-1) 0 (by omega) (by omega) (by simp) (by omega) (by omega) (by omega)]
      cases RL s g.toNat j (-1) <;> simp

theorem iNA (k : Nat) (hk : 2 ≤ k) (s : ByteArray) (i : Int) (hs : s.size ≤ 140737488351232) : impl_NumAt.f k s i = some (NA s i) := by
  obtain ⟨k, rfl⟩ : ∃ m, k = m + 2 := ⟨k - 2, by omega⟩
  unfold impl_NumAt.f NA
  by_cases h0 : i < 0
  · rw [if_pos h0, if_pos (.inl h0)]; simp [impl_NumAt.j0]
  · rw [if_neg h0]
    by_cases h1 : i ≥ (s.size : Int)
    · rw [if_pos (.inr h1)]; simp [impl_NumAt.j0, h1]
    · have b0 := bt_range s i
      have b1 := bt_range s (i + 1)
      rw [if_neg (by omega)]
      simp only [impl_NumAt.j0, impl_NumAt.j1, decide_eq_true_eq, w64 (x := i + 1) (by omega), w64 (x := i + 2) (by omega), w64 (x := bt s i) (by omega), w64 (x := bt s (i + 1)) (by omega)]
      rw [if_neg h1, if_pos (by omega), if_pos (by omega)]
      by_cases h2 : bt s i < 128
      · rw [if_pos h2, if_pos h2]
      · rw [if_neg h2, if_neg h2]
        have c1 : 0 ≤ i + 1 := by omega
        by_cases h3 : bt s i = 128
        · simp [h3]
        · by_cases h4 : i + 1 ≥ (s.size : Int)
          · simp [h3, h4]
          · have c2 : i + 1 < (s.size : Int) := by omega
            rw [if_neg h3, if_neg h4, if_pos c1, if_pos c2, if_neg (show ¬ (bt s i = 128 ∨ i + 1 ≥ (s.size : Int)) by omega)]
            by_cases h5 : bt s (i + 1) ≥ 128
            · rw [if_pos h5, if_pos h5]
            · rw [if_neg h5, if_neg h5, w64 (x := bt s i - 128) (by omega), w64 (x := (bt s i - 128) * 128) (by omega), w64 (x := (bt s i - 128) * 128 + bt s (i + 1)) (by omega)]

theorem iNum (k : Nat) (hk : 2 ≤ k) (s : ByteArray) (hs : s.size ≤ 140737488351232) (i : Int) : impl_byteReader_num.f k s i false = some (if (NA s i).2.2 = true then ((NA s i).1, s, (NA s i).2.1, false) else (0, s, i, true)) := by
  unfold impl_byteReader_num.f
  rw [if_neg (by decide), iNA k hk s i hs]
  simp only [Option.bind_some]
  split <;> rfl
theorem iRL (s : ByteArray) (hs : s.size ≤ 140737488351232) (n : Int) (hn : n ≤ 127) : ∀ (d k : Nat) (at_ : Int) (out : List Int) (last : Int) (i : Int), 0 ≤ i → i + d = n → out.length ≤ i → -1 ≤ last → last ≤ 16383 → 2 * d + 6 < k →
    ∃ l e, impl_byteReader_row.l0 k n out last i s at_ false = some (l, s, e, (RL s d at_ last).isNone) ∧ ∀ r, RL s d at_ last = some r → l = out ++ r.1 ∧ e = r.2 := by
  intro d
  induction d with
  | zero =>
    intro k at_ out last i hi hd ho h0 h1 hk
    obtain ⟨k, rfl⟩ : ∃ m, k = m + 2 := ⟨k - 2, by omega⟩
    simp only [impl_byteReader_row.l0, impl_byteReader_row.j2]
    rw [if_neg (by omega)]
    exact ⟨out, at_, by simp [RL], fun r hr => by simp [RL] at hr; subst hr; simp⟩
  | succ d ih =>
    intro k at_ out last i hi hd ho h0 h1 hk
    obtain ⟨k, rfl⟩ : ∃ m, k = m + 2 := ⟨k - 2, by omega⟩
    simp only [impl_byteReader_row.l0, impl_byteReader_row.j2, Bool.not_false, if_true]
    rw [if_pos (by omega), iNum k (by omega) s hs]
    simp only [Option.bind_some, RL]
    obtain ⟨⟨g, j, b⟩, hq⟩ : ∃ z, NA s at_ = z := ⟨_, rfl⟩
    have hb := NA_bound hq
    rw [hq]
    have stop : ∀ (k : Nat) (l : List Int) (p x e : Int), 2 ≤ k → impl_byteReader_row.l0 k n l p x s e true = some (l, s, e, true) := fun k l p x e hk => by
      obtain ⟨k, rfl⟩ : ∃ m, k = m + 2 := ⟨k - 2, by omega⟩
      simp only [impl_byteReader_row.l0, impl_byteReader_row.j2]
      split <;> simp
    cases b with
    | false =>
      simp only [Bool.false_eq_true, if_false, false_and]
      rw [w64 (x := last + 1) (by omega), w64 (x := last + 1 + 0) (by omega), w64 (x := i + 1) (by omega)]
      by_cases h : last + 1 + 0 > 16383
      · rw [if_pos h, if_pos (show out.length < 17592186044416 by omega), stop k _ _ _ _ (by omega)]; exact ⟨_, _, rfl, fun r hr => by simp at hr⟩
      · rw [if_neg h, if_pos (show out.length < 17592186044416 by omega), stop k _ _ _ _ (by omega)]; exact ⟨_, _, rfl, fun r hr => by simp at hr⟩
    | true =>
      simp only [if_true, true_and]
      rw [w64 (x := last + 1) (by omega), w64 (x := last + 1 + g) (by omega), w64 (x := i + 1) (by omega)]
      by_cases h : last + 1 + g > 16383
      · rw [if_pos h, if_pos (show out.length < 17592186044416 by omega), stop k _ _ _ _ (by omega), if_neg (show ¬ last + 1 + g ≤ 16383 by omega)]
        exact ⟨_, _, rfl, fun r hr => by cases hr⟩
      · obtain ⟨l, e, h3, h4⟩ := ih k j (out ++ [last + 1 + g]) (last + 1 + g) (i + 1) (by omega) (by omega) (by simp; omega) (by omega) (by omega) (by omega)
        rw [if_neg h, if_pos (show out.length < 17592186044416 by omega), h3, if_pos (show last + 1 + g ≤ 16383 by omega)]
        refine ⟨l, e, ?_, fun r hr => ?_⟩
        · cases RL s d j (last + 1 + g) <;> rfl
        · obtain ⟨q, hq2, rfl⟩ := Option.map_eq_some_iff.1 hr
          have := h4 q hq2
          simpa using this
theorem iRA (k : Nat) (hk : 400 ≤ k) (s : ByteArray) (hs : s.size ≤ 140737488351232) (i : Int) : impl_RowAt.f k s i = some (RA s i) := by
  obtain ⟨k, rfl⟩ : ∃ m, k = m + 3 := ⟨k - 3, by omega⟩
  unfold impl_RowAt.f impl_byteReader_row.f RA
  rw [iNum (k + 3) (by omega) s hs]
  obtain ⟨⟨g, j, b⟩, hq⟩ : ∃ z, NA s i = z := ⟨_, rfl⟩
  have hb := NA_bound hq
  rw [hq]
  simp only [Option.bind_some]
  have stop : ∀ (k : Nat) (n : Int) (l : List Int) (p x e : Int), 2 ≤ k → impl_byteReader_row.l0 k n l p x s e true = some (l, s, e, true) := fun k n l p x e hk => by
    obtain ⟨k, rfl⟩ : ∃ m, k = m + 2 := ⟨k - 2, by omega⟩
    simp only [impl_byteReader_row.l0, impl_byteReader_row.j2]
    split <;> simp
  cases b with
  | false =>
    simp only [Bool.false_eq_true, if_false, false_and, impl_byteReader_row.j0]
    rw [if_neg (show ¬ (0 : Int) > 127 by omega), stop _ _ _ _ _ _ (by omega)]; rfl
  | true =>
    simp only [if_true, true_and, impl_byteReader_row.j0]
    by_cases h : g > 127
    · rw [if_pos h, if_neg (show ¬ g ≤ 127 by omega), stop _ _ _ _ _ _ (by omega)]; rfl
    · rw [if_neg h, if_pos (show g ≤ 127 by omega)]
      obtain ⟨l, e, h3, h4⟩ := iRL s hs g (by omega) g.toNat (k + 2) j [] (-1) 0 (by omega) (by omega) (by simp) (by omega) (by omega) (by omega)
      rw [h3]
      cases hr : RL s g.toNat j (-1) with
      | none => rfl
      | some r => obtain ⟨h5, h6⟩ := h4 r hr; subst h5; subst h6; rfl

/-- A loop over the places from i on that stops at the first place where p does not hold. -/
theorem loop_all {l : Nat → Int → Option Bool} {p : Int → Bool} {n : Int} (h : ∀ k i, 0 ≤ i → i ≤ n → l (k + 1) i = if i < n then (if p i = true then l k (i + 1) else some false) else some true) :
    ∀ (d k : Nat) (i : Int), 0 ≤ i → i + d = n → d < k → l k i = some ((List.range d).all fun j => p (i + j)) := by
  intro d
  induction d with
  | zero =>
    intro k i h0 hd hk
    obtain ⟨k, rfl⟩ : ∃ m, k = m + 1 := ⟨k - 1, by omega⟩
    rw [h k i h0 (by omega), if_neg (by omega)]; rfl
  | succ d ih =>
    intro k i h0 hd hk
    obtain ⟨k, rfl⟩ : ∃ m, k = m + 1 := ⟨k - 1, by omega⟩
    rw [h k i h0 (by omega), if_pos (by omega), List.range_succ_eq_map, List.all_cons, List.all_map]
    by_cases hp : p i = true
    · rw [if_pos hp, ih k (i + 1) (by omega) (by omega) (by omega)]
      have e : ∀ j : Nat, i + 1 + (j : Int) = i + ((j + 1 : Nat) : Int) := fun j => by omega
      simp [hp, Function.comp_def, e]
    · rw [if_neg hp]; simp at hp; simp [hp]
/-- A loop that lays f of each place, from i on, into a row as long. -/
theorem loop_set {α : Type} {l : Nat → List α → Int → Option (List α)} {f : Int → α} {n : Nat} (h : ∀ (k : Nat) (xs : List α) (i : Int), xs.length = n → 0 ≤ i → i ≤ n → l (k + 1) xs i = if i < n then l k (xs.set i.toNat (f i)) (i + 1) else some xs) :
    ∀ (d k : Nat) (xs : List α) (i : Nat), xs.length = n → i + d = n → d < k → l k xs i = some (xs.take i ++ (List.range d).map fun j => f ((i + j : Nat) : Int)) := by
  intro d
  induction d with
  | zero =>
    intro k xs i hl hd hk
    obtain ⟨k, rfl⟩ : ∃ m, k = m + 1 := ⟨k - 1, by omega⟩
    rw [h k xs i hl (by omega) (by omega), if_neg (by omega)]
    simp [List.take_of_length_le (show xs.length ≤ i by omega)]
  | succ d ih =>
    intro k xs i hl hd hk
    obtain ⟨k, rfl⟩ : ∃ m, k = m + 1 := ⟨k - 1, by omega⟩
    rw [h k xs i hl (by omega) (by omega), if_pos (by omega)]
    have e := ih k (xs.set (i : Int).toNat (f i)) (i + 1) (by simpa using hl) (by omega) (by omega)
    rw [show ((i + 1 : Nat) : Int) = (i : Int) + 1 by omega] at e
    rw [e, List.range_succ_eq_map, List.map_cons, List.map_map]
    congr 1
    rw [Int.toNat_natCast]
    have hi : i < xs.length := by omega
    rw [List.take_succ_eq_append_getElem (by simpa using hi), List.getElem_set_self, List.take_set_of_le (by omega)]
    simp [Function.comp_def, Nat.add_assoc, Nat.add_comm 1]
theorem loop_set0 {α : Type} {l : Nat → List α → Int → Option (List α)} {f : Int → α} {n : Nat} (h : ∀ (k : Nat) (xs : List α) (i : Int), xs.length = n → 0 ≤ i → i ≤ n → l (k + 1) xs i = if i < n then l k (xs.set i.toNat (f i)) (i + 1) else some xs)
    (k : Nat) (hk : n < k) (xs : List α) (hl : xs.length = n) : l k xs 0 = some ((List.range n).map fun j : Nat => f (j : Int)) := by
  have e := loop_set h n k xs 0 hl (by omega) hk
  simpa using e

theorem eqInt_self (xs : List Int) (hm : xs.length ≤ 1048576) (k : Nat) (hk : xs.length < k) : laws_eqIntS.f k xs xs = some true := by
  unfold laws_eqIntS.f
  rw [if_pos rfl]
  have h := loop_all (l := fun k i => laws_eqIntS.l0 k xs xs i) (p := fun _ => true) (n := xs.length) (fun k i h0 h1 => by
    show laws_eqIntS.l0 (k + 1) xs xs i = _
    simp only [laws_eqIntS.l0, if_true]
    by_cases h : i < (xs.length : Int)
    · rw [if_pos h, if_pos h, if_pos h0, if_pos h, w64 (x := i + 1) (by omega)]
    · rw [if_neg h, if_neg h]) xs.length k 0 (by omega) (by omega) hk
  rw [h]; simp

theorem markInt_l0 (n : Nat) (a : Int) (ha : 0 ≤ a) (hm : a + n ≤ 100000000) : ∀ (d k : Nat) (ys : List Int) (i : Nat), ys.length = n → i + d = n → (∀ j, j < i → ys[j]? = some (a + (j : Int))) → d < k →
    ∃ zs, laws_markIntS.l0 k ys (a + i) i = some (a + n, zs) ∧ zs.length = n ∧ ∀ j : Nat, j < n → zs[j]? = some (a + (j : Int)) := by
  intro d
  induction d with
  | zero =>
    intro k ys i hl hd hy hk
    obtain ⟨k, rfl⟩ : ∃ m, k = m + 1 := ⟨k - 1, by omega⟩
    simp only [laws_markIntS.l0]
    rw [if_neg (by omega)]
    exact ⟨ys, by rw [show i = n by omega], hl, fun j hj => hy j (by omega)⟩
  | succ d ih =>
    intro k ys i hl hd hy hk
    obtain ⟨k, rfl⟩ : ∃ m, k = m + 1 := ⟨k - 1, by omega⟩
    simp only [laws_markIntS.l0]
    rw [if_pos (by omega), if_pos (by omega), w64 (x := a + (i : Int) + 1) (by omega), w64 (x := (i : Int) + 1) (by omega), Int.toNat_natCast]
    have := ih k (ys.set i (a + (i : Int))) (i + 1) (by simpa using hl) (by omega) (fun j hj => by
      by_cases e : j = i
      · subst e; rw [List.getElem?_set_self (by omega)]
      · rw [List.getElem?_set_ne (by omega)]; exact hy j (by omega)) (by omega)
    rw [show a + ((i + 1 : Nat) : Int) = a + (i : Int) + 1 by omega, show ((i + 1 : Nat) : Int) = (i : Int) + 1 by omega] at this
    exact this
theorem heldInt_l0 (zs : List Int) (a : Int) (ha : 0 ≤ a) (hm : a + zs.length ≤ 100000000) (hz : ∀ j : Nat, j < zs.length → zs[j]? = some (a + (j : Int))) : ∀ (d k : Nat) (i : Nat), i + d = zs.length → d < k → laws_heldIntS.l0 k zs (a + i) i = some (a + zs.length) := by
  intro d
  induction d with
  | zero =>
    intro k i hd hk
    obtain ⟨k, rfl⟩ : ∃ m, k = m + 1 := ⟨k - 1, by omega⟩
    simp only [laws_heldIntS.l0]
    rw [if_neg (by omega), show i = zs.length by omega]
  | succ d ih =>
    intro k i hd hk
    obtain ⟨k, rfl⟩ : ∃ m, k = m + 1 := ⟨k - 1, by omega⟩
    simp only [laws_heldIntS.l0]
    have er : rd zs (i : Int) = a + (i : Int) := by unfold rd; rw [Int.toNat_natCast, List.getD_eq_getElem?_getD, hz i (by omega)]; rfl
    rw [if_pos (by omega), if_pos (by omega), er, if_pos rfl, w64 (x := a + (i : Int) + 1) (by omega), w64 (x := (i : Int) + 1) (by omega)]
    have := ih k (i + 1) (by omega) (by omega)
    rw [show a + ((i + 1 : Nat) : Int) = a + (i : Int) + 1 by omega, show ((i + 1 : Nat) : Int) = (i : Int) + 1 by omega] at this
    exact this
/-- What is laid as marks is held. -/
theorem markInt_ok (xs : List Int) (hm : xs.length ≤ 1048576) (k : Nat) (hk : xs.length < k) : ∃ zs, laws_markIntS.f k xs 1 = some (1 + (xs.length : Int), zs) ∧ ∀ q, xs.length < q → laws_heldIntS.f q zs 1 = some (1 + (xs.length : Int)) := by
  obtain ⟨zs, h1, h2, h3⟩ := markInt_l0 xs.length 1 (by omega) (by omega) xs.length k xs 0 rfl (by omega) (fun j hj => by omega) hk
  refine ⟨zs, by unfold laws_markIntS.f; simpa using h1, fun q hq => ?_⟩
  have h4 := heldInt_l0 zs 1 (by omega) (by omega) (fun j hj => h3 j (by omega)) zs.length q 0 (by omega) (by omega)
  unfold laws_heldIntS.f
  rw [h2] at h4
  simpa using h4

theorem FnExactRowAt : laws_FnExactRowAt.Pure := by
  intro s i hs _
  refine ⟨500, ?_⟩
  unfold laws_FnExactRowAt.f
  by_cases h : (s.size : Int) > 1048576
  · rw [if_pos h]
  rw [if_neg h]
  have hl := RA_len s i
  obtain ⟨zs, hz1, hz2⟩ := markInt_ok (RA s i).1 (by omega) 499 (by omega)
  simp only [sRA 500 (by decide) s hs, iRA 500 (by decide) s hs, Option.bind_some, eqInt_self (RA s i).1 (by omega) 500 (by omega), if_true, bne_self_eq_false]
  simp only [laws_FnExactRowAt.j0, Bool.false_eq_true, if_false, hz1, Option.bind_some, hz2 499 (by omega)]
  rw [if_neg (by omega)]
  simp only [if_true, iRA 499 (by decide) s hs, Option.bind_some, eqInt_self (RA s i).1 (by omega) 499 (by omega), bne_self_eq_false]
  simp only [laws_FnExactRowAt.j1, Bool.false_eq_true, if_false, hz2 498 (by omega), Option.bind_some]
  rw [if_neg (by omega)]
  simp

end Go.Proofs.Ytomkkhkfenmdlaa.Pure
