/- The plain law behind FnExactStoreSame: of every two stores both functions tell the same. -/
import Derived.Test.YtomkkhkfenmdlaaPFnExactStoreSameOpen
namespace Go.Proofs.Ytomkkhkfenmdlaa.Pure
open Go.RowKit Go.Proofs.Ytomkkhkfenmdlaa.PFnExactStoreSame Go.Proofs.YtomkkhkfenmdlaaW.PrintWords Go.Proofs.YtomkkhkfenmdlaaW.PrintLast
set_option linter.unusedSimpArgs false
set_option linter.unusedVariables false

theorem w64 {x : Int} (h : -9223372036854775808 ≤ x ∧ x ≤ 9223372036854775807) : wrap64 x = x := by unfold wrap64; omega
theorem rdB {b : List Int} (hb : ∀ x ∈ b, 0 ≤ x ∧ x ≤ 255) (i : Int) : 0 ≤ rd b i ∧ rd b i ≤ 255 := by
  unfold rd
  rw [List.getD_eq_getElem?_getD]
  cases h : b[i.toNat]? with
  | none => simp
  | some v => exact hb v (List.mem_of_getElem? h)
theorem u8B {l : List Int} (h : ∀ x ∈ l, (Lit.int .u8 x).wf = true) : ∀ x ∈ l, 0 ≤ x ∧ x ≤ 255 := fun x hx => by
  have := h x hx
  simp [Lit.wf, IntKind.min, IntKind.max, IntKind.signed, IntKind.bits] at this
  omega

/-- A loop over the places from i on that stops at the first place where p does not hold. -/
theorem loop_all {l : Nat → Int → Option Bool} {p : Int → Bool} {n : Int} (h : ∀ k i, 0 ≤ i → i ≤ n → l (k + 1) i = if i < n then (if p i = true then l k (i + 1) else some false) else some true) :
    ∀ (d k : Nat) (i : Int), 0 ≤ i → i + d = n → d < k → l k i = some ((List.range d).all fun j => p (i + j)) := by
  intro d
  induction d with
  | zero =>
    intro k i h0 hd hk
    obtain ⟨k, rfl⟩ : ∃ m, k = m + 1 := ⟨k - 1, by omega⟩
    rw [h k i h0 (by omega), if_neg (by omega)]; rfl
  | succ d ih =>
    intro k i h0 hd hk
    obtain ⟨k, rfl⟩ : ∃ m, k = m + 1 := ⟨k - 1, by omega⟩
    rw [h k i h0 (by omega), if_pos (by omega), List.range_succ_eq_map, List.all_cons, List.all_map]
    by_cases hp : p i = true
    · rw [if_pos hp, ih k (i + 1) (by omega) (by omega) (by omega)]
      have e : ∀ j : Nat, i + 1 + (j : Int) = i + ((j + 1 : Nat) : Int) := fun j => by omega
      simp [hp, Function.comp_def, e]
    · rw [if_neg hp]; simp at hp; simp [hp]
/-- A loop that lays f of each place, from i on, into a row as long. -/
theorem loop_set {α : Type} {l : Nat → List α → Int → Option (List α)} {f : Int → α} {n : Nat} (h : ∀ (k : Nat) (xs : List α) (i : Int), xs.length = n → 0 ≤ i → i ≤ n → l (k + 1) xs i = if i < n then l k (xs.set i.toNat (f i)) (i + 1) else some xs) :
    ∀ (d k : Nat) (xs : List α) (i : Nat), xs.length = n → i + d = n → d < k → l k xs i = some (xs.take i ++ (List.range d).map fun j => f ((i + j : Nat) : Int)) := by
  intro d
  induction d with
  | zero =>
    intro k xs i hl hd hk
    obtain ⟨k, rfl⟩ : ∃ m, k = m + 1 := ⟨k - 1, by omega⟩
    rw [h k xs i hl (by omega) (by omega), if_neg (by omega)]
    simp [List.take_of_length_le (show xs.length ≤ i by omega)]
  | succ d ih =>
    intro k xs i hl hd hk
    obtain ⟨k, rfl⟩ : ∃ m, k = m + 1 := ⟨k - 1, by omega⟩
    rw [h k xs i hl (by omega) (by omega), if_pos (by omega)]
    have e := ih k (xs.set (i : Int).toNat (f i)) (i + 1) (by simpa using hl) (by omega) (by omega)
    rw [show ((i + 1 : Nat) : Int) = (i : Int) + 1 by omega] at e
    rw [e, List.range_succ_eq_map, List.map_cons, List.map_map]
    congr 1
    rw [Int.toNat_natCast]
    have hi : i < xs.length := by omega
    rw [List.take_succ_eq_append_getElem (by simpa using hi), List.getElem_set_self, List.take_set_of_le (by omega)]
    simp [Function.comp_def, Nat.add_assoc, Nat.add_comm 1]
theorem loop_set0 {α : Type} {l : Nat → List α → Int → Option (List α)} {f : Int → α} {n : Nat} (h : ∀ (k : Nat) (xs : List α) (i : Int), xs.length = n → 0 ≤ i → i ≤ n → l (k + 1) xs i = if i < n then l k (xs.set i.toNat (f i)) (i + 1) else some xs)
    (k : Nat) (hk : n < k) (xs : List α) (hl : xs.length = n) : l k xs 0 = some ((List.range n).map fun j : Nat => f (j : Int)) := by
  have e := loop_set h n k xs 0 hl (by omega) hk
  simpa using e

/-- The sum of a slice's texts is taken off, one by one: some number is told. -/
theorem sz_ok (l : List S80) (hw : ∀ x ∈ l, W80 x) (hm : l.length ≤ maxLen) (k : Nat) (hk : l.length < k) (a : Int) (ha : 0 ≤ a) (hb : a ≤ 1048576) : ∃ r, laws_szSegS.f k l a = some r ∧ r ≤ 1048576 ∧ (0 ≤ r → l.length ≤ 1048576) := by
  have rw1 : wrap64 (a - (l.length : Int)) = a - l.length := by unfold maxLen at hm; exact w64 (by omega)
  have step : ∀ (d k : Nat) (b i : Int), 0 ≤ b → b ≤ 1048576 → 0 ≤ i → i + d = l.length → d < k → ∃ r, laws_szSegS.l0 k l b i = some r ∧ r ≤ 1048576 := by
    intro d
    induction d with
    | zero =>
      intro k b i hb0 hb1 h0 hd hk
      obtain ⟨k, rfl⟩ : ∃ m, k = m + 1 := ⟨k - 1, by omega⟩
      simp only [laws_szSegS.l0]
      rw [if_neg (by omega)]
      exact ⟨b, rfl, hb1⟩
    | succ d ih =>
      intro k b i hb0 hb1 h0 hd hk
      obtain ⟨k, rfl⟩ : ∃ m, k = m + 1 := ⟨k - 1, by omega⟩
      simp only [laws_szSegS.l0]
      rw [if_pos (by omega), if_pos h0]
      have hx : (rd_T80 l i).f1.size ≤ maxLen := by
        have hi : i.toNat < l.length := by omega
        unfold rd_T80
        rw [List.getD_eq_getElem?_getD, List.getElem?_eq_getElem hi]
        exact (hw _ (List.getElem_mem hi)).2
      have e : laws_szSeg.f (rd_T80 l i).f0 (rd_T80 l i).f1 b = some (if b - ((rd_T80 l i).f1.size : Int) < 0 then -1 else b - ((rd_T80 l i).f1.size : Int)) := by
        unfold laws_szSeg.f
        rw [w64 (x := b - ((rd_T80 l i).f1.size : Int)) (by unfold maxLen at hx; omega)]
        split <;> rfl
      rw [e]
      simp only [Option.bind_some]
      by_cases h : b - ((rd_T80 l i).f1.size : Int) < 0
      · rw [if_pos h, if_pos (by omega)]; exact ⟨-1, rfl, by omega⟩
      · rw [if_neg h, if_neg h, w64 (x := i + 1) (by unfold maxLen at hm; omega)]
        exact ih k _ _ (by omega) (by omega) (by omega) (by omega) (by omega)
  unfold laws_szSegS.f
  rw [rw1]
  by_cases h : a - (l.length : Int) < 0
  · rw [if_pos h]; exact ⟨-1, rfl, by omega, by omega⟩
  · rw [if_neg h]
    obtain ⟨r, hr, hr1⟩ := step l.length k (a - l.length) 0 (by omega) (by omega) (by omega) (by omega) hk
    exact ⟨r, hr, hr1, fun _ => by omega⟩
def cv80 (x : S80) : S81 := ⟨x.f0, x.f1⟩
theorem toSegS_ok (l : List S80) (hm : l.length ≤ 1048576) (k : Nat) (hk : l.length < k) : laws_toSegS.f k l = some (l.map cv80) := by
  unfold laws_toSegS.f
  rw [if_pos (by omega), if_pos (by omega)]
  have h := loop_set0 (l := fun k xs i => laws_toSegS.l0 k l xs i) (f := fun i => cv80 (rd_T80 l i)) (n := l.length) (fun k xs i hl h0 h1 => by
    show laws_toSegS.l0 (k + 1) l xs i = _
    simp only [laws_toSegS.l0, laws_toSeg.f, Option.bind_some]
    by_cases h : i < (l.length : Int)
    · rw [if_pos h, if_pos h, if_pos h0, if_pos (by omega), w64 (x := i + 1) (by omega)]; rfl
    · rw [if_neg h, if_neg h]) k hk (List.replicate ((l.length : Int) : Int).toNat z81) (by simp)
  rw [h]
  congr 1
  apply List.ext_getElem (by simp)
  intro j h1 h2
  simp at h1
  simp [rd_T80, List.getD_eq_getElem?_getD, h1]
def E81 (a b : S81) : Bool := a.f0 == b.f0 && (a.f1.toList == b.f1.toList)
theorem E81_self (a : S81) : E81 a a = true := by simp [E81]
theorem neE (a b : S81) : ((!(a.f0 == b.f0) || (!(a.f1.toList == b.f1.toList))) = true) ↔ ¬ E81 a b = true := by
  unfold E81; cases (a.f0 == b.f0) <;> cases (a.f1.toList == b.f1.toList) <;> simp
/-- Two rows are one in all places. -/
def Es (xs ys : List S81) : Bool := (List.range xs.length).all fun j => E81 (rd_T81 xs (0 + (j : Int))) (rd_T81 ys (0 + (j : Int)))
theorem Es_self (xs : List S81) : Es xs xs = true := by unfold Es; rw [List.all_eq_true]; intro j _; exact E81_self _
theorem eqSegS_ok (xs ys : List S81) (hm : xs.length ≤ 1048576) (hl : xs.length = ys.length) (k : Nat) (hk : xs.length < k) : laws_eqSegS.f k xs ys = some (Es xs ys) := by
  unfold laws_eqSegS.f
  rw [if_pos (by omega)]
  exact loop_all (l := fun k i => laws_eqSegS.l0 k xs ys i) (p := fun i => E81 (rd_T81 xs i) (rd_T81 ys i)) (n := xs.length) (fun k i h0 h1 => by
    show laws_eqSegS.l0 (k + 1) xs ys i = _
    simp only [laws_eqSegS.l0, laws_eqSeg.f]
    by_cases h : i < (xs.length : Int)
    · rw [if_pos h, if_pos h, if_pos h0, if_pos (by omega), w64 (x := i + 1) (by omega)]
      unfold E81
      by_cases c1 : (rd_T81 xs i).f0 = (rd_T81 ys i).f0
      · by_cases c2 : (rd_T81 xs i).f1.toList = (rd_T81 ys i).f1.toList
        · simp [c1, c2]
        · simp [c1, c2]
      · simp [c1]
    · rw [if_neg h, if_neg h]) xs.length k 0 (by omega) (by omega) hk
theorem eqSegS_ne (xs ys : List S81) (hl : xs.length ≠ ys.length) (k : Nat) : laws_eqSegS.f k xs ys = some false := by
  unfold laws_eqSegS.f
  rw [if_neg (by omega)]

theorem sSame_ok (xs ys : List S81) (hm : xs.length ≤ 1048576) (k : Nat) (hk : xs.length < k) : spec_StoreSame.f k xs ys = some (decide (xs.length = ys.length) && Es xs ys) := by
  unfold spec_StoreSame.f
  by_cases hl : xs.length = ys.length
  · rw [if_pos (by omega), decide_eq_true hl, Bool.true_and]
    exact loop_all (l := fun k i => spec_StoreSame.l0 k xs ys i) (p := fun i => E81 (rd_T81 xs i) (rd_T81 ys i)) (n := xs.length) (fun k i h0 h1 => by
      show spec_StoreSame.l0 (k + 1) xs ys i = _
      simp only [spec_StoreSame.l0]
      by_cases h : i < (xs.length : Int)
      · rw [if_pos h, if_pos h, if_pos h0, if_pos (by omega), w64 (x := i + 1) (by omega)]
        by_cases c : E81 (rd_T81 xs i) (rd_T81 ys i) = true
        · rw [if_neg (fun h => (neE _ _).1 h c), if_pos c]
        · rw [if_pos ((neE _ _).2 c), if_neg c]
      · rw [if_neg h, if_neg h]) xs.length k 0 (by omega) (by omega) hk
  · rw [if_neg (by omega), decide_eq_false hl, Bool.false_and]

theorem iSame_ok (xs ys : List S81) (hm : xs.length ≤ 1048576) (k : Nat) (hk : xs.length < k) : impl_StoreSame.f k xs ys = some (decide (xs.length = ys.length) && Es xs ys) := by
  unfold impl_StoreSame.f impl_Seg.f
  by_cases hl : xs.length = ys.length
  · rw [if_pos (by omega), decide_eq_true hl, Bool.true_and]
    have h := loop_all (l := fun k i => impl_Seg.l0 k xs ys xs.length i) (p := fun i => E81 (rd_T81 xs i) (rd_T81 ys i)) (n := xs.length) (fun k i h0 h1 => by
      show impl_Seg.l0 (k + 1) xs ys xs.length i = _
      simp only [impl_Seg.l0]
      by_cases h : i < (xs.length : Int)
      · rw [if_pos h, if_pos h, if_pos h0, if_pos h, if_pos (by omega), w64 (x := i + 1) (by omega)]
        by_cases c : E81 (rd_T81 xs i) (rd_T81 ys i) = true
        · rw [if_neg (fun h => (neE _ _).1 h c), if_pos c]
        · rw [if_pos ((neE _ _).2 c), if_neg c]
      · rw [if_neg h, if_neg h]) xs.length k 0 (by omega) (by omega) hk
    rw [h]; rfl
  · rw [if_neg (by omega), decide_eq_false hl, Bool.false_and]; rfl

theorem FnExactStoreSame : laws_FnExactStoreSame.Pure := by
  intro l0 l1 m0 w0 m1 w1
  refine ⟨l0.length + l1.length + 1, ?_⟩
  unfold laws_FnExactStoreSame.f
  obtain ⟨r, hr, hr1, hr2⟩ := sz_ok l0 w0 m0 (l0.length + l1.length + 1) (by omega) 1048576 (by omega) (by omega)
  rw [hr]; simp only [Option.bind_some]
  by_cases h : r < 0
  · rw [if_pos h]
  rw [if_neg h]
  obtain ⟨q, hq, hq1, hq2⟩ := sz_ok l1 w1 m1 (l0.length + l1.length + 1) (by omega) r (by omega) hr1
  rw [hq]; simp only [Option.bind_some]
  by_cases h' : q < 0
  · rw [if_pos h']
  rw [if_neg h']
  have a0 := hr2 (by omega)
  have a1 := hq2 (by omega)
  simp only [toSegS_ok l0 a0 (l0.length + l1.length + 1) (by omega), toSegS_ok l1 a1 (l0.length + l1.length + 1) (by omega), Option.bind_some]
  have e0 : (l0.map cv80).length = l0.length := by simp
  have e1 : (l1.map cv80).length = l1.length := by simp
  rw [sSame_ok _ _ (by omega) _ (by omega), iSame_ok _ _ (by omega) _ (by omega)]
  simp only [Option.bind_some, bne_self_eq_false, Bool.false_eq_true, if_false]
  rw [eqSegS_ok _ _ (by omega) rfl _ (by omega), eqSegS_ok _ _ (by omega) rfl _ (by omega), Es_self, Es_self]
  simp

end Go.Proofs.Ytomkkhkfenmdlaa.Pure
