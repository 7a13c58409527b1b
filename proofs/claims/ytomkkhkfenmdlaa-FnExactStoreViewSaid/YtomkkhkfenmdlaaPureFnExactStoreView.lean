/- The plain law behind FnExactStoreView: of every store and number both functions tell the same, in memory of its own. -/
import Derived.Test.YtomkkhkfenmdlaaPFnExactStoreViewOpen
namespace Go.Proofs.Ytomkkhkfenmdlaa.Pure
open Go.RowKit Go.Proofs.Ytomkkhkfenmdlaa.PFnExactStoreView Go.Proofs.YtomkkhkfenmdlaaW.PrintWords Go.Proofs.YtomkkhkfenmdlaaW.PrintLast
set_option linter.unusedSimpArgs false
set_option linter.unusedVariables false

theorem lab8 {a : Int} (h : 0 ≤ a ∧ a ≤ 7) : a = 0 ∨ a = 1 ∨ a = 2 ∨ a = 3 ∨ a = 4 ∨ a = 5 ∨ a = 6 ∨ a = 7 := by omega

def isL (a : Int) : Bool := decide (0 ≤ a ∧ a ≤ 7)
def U (a b : Int) : Bool := isL a && (isL b && (a.toNat &&& b.toNat == a.toNat))
def Jn (a b : Int) : Int := if isL a && isL b then ((a.toNat ||| b.toNat : Nat) : Int) else 0
def Mt (a b : Int) : Int := if isL a && isL b then ((a.toNat &&& b.toNat : Nat) : Int) else 0
def Hs (a i : Int) : Bool := isL a && (decide (0 ≤ i ∧ i < 3) && a.toNat.testBit i.toNat)
def Mn (a : Int) : Int := if isL a then ((Hs a 0).toNat + (Hs a 1).toNat + (Hs a 2).toNat : Nat) else 0
def Al (a : Int) : List Int := [0, 1, 2, 3, 4, 5, 6, 7].filter fun b => U b a
theorem fin8 {a : Int} (h : isL a = true) : ∃ x : Fin 8, a = (x.val : Int) := by
  simp [isL] at h
  obtain ⟨n, rfl⟩ := Int.eq_ofNat_of_zero_le h.1
  exact ⟨⟨n, by omega⟩, rfl⟩

theorem iIs (a : Int) : impl_LabelOk.f a = some (isL a) := by
  unfold impl_LabelOk.f isL
  by_cases h : 0 ≤ a
  · rw [if_pos h]; simp [h]
  · rw [if_neg h]; simp [h]

theorem iU8 : ∀ a b : Fin 8, impl_LabelUnder.f (a.val : Int) (b.val : Int) = some (U a.val b.val) := by decide +kernel
theorem iU (a b : Int) : impl_LabelUnder.f a b = some (U a b) := by
  by_cases ha : isL a = true
  · by_cases hb : isL b = true
    · obtain ⟨x, rfl⟩ := fin8 ha
      obtain ⟨y, rfl⟩ := fin8 hb
      exact iU8 x y
    · simp [impl_LabelUnder.f, iIs, U, ha, hb]
  · simp [impl_LabelUnder.f, iIs, U, ha]

theorem sIs (a : Int) : spec_LabelOk.f a = some (isL a) := by
  unfold spec_LabelOk.f isL
  by_cases h : a ≥ 0
  · rw [if_pos h]; simp [h]
  · rw [if_neg h]; simp [h]

theorem sU8 : ∀ a b : Fin 8, spec_LabelUnder.f 12 (a.val : Int) (b.val : Int) = some (U a.val b.val) := by decide +kernel
theorem sU (k : Nat) (hk : 12 ≤ k) (a b : Int) : spec_LabelUnder.f k a b = some (U a b) := by
  by_cases ha : isL a = true
  · by_cases hb : isL b = true
    · obtain ⟨x, rfl⟩ := fin8 ha
      obtain ⟨y, rfl⟩ := fin8 hb
      exact at_rounds (g := fun k => spec_LabelUnder.f k (x.val : Int) (y.val : Int)) (fun k => spec_LabelUnder.mono _ _ k) hk (sU8 x y)
    · simp [spec_LabelUnder.f, sIs, U, ha, hb]
  · simp [spec_LabelUnder.f, sIs, U, ha]

theorem w64 {x : Int} (h : -9223372036854775808 ≤ x ∧ x ≤ 9223372036854775807) : wrap64 x = x := by unfold wrap64; omega
theorem rdB {b : List Int} (hb : ∀ x ∈ b, 0 ≤ x ∧ x ≤ 255) (i : Int) : 0 ≤ rd b i ∧ rd b i ≤ 255 := by
  unfold rd
  rw [List.getD_eq_getElem?_getD]
  cases h : b[i.toNat]? with
  | none => simp
  | some v => exact hb v (List.mem_of_getElem? h)
theorem u8B {l : List Int} (h : ∀ x ∈ l, (Lit.int .u8 x).wf = true) : ∀ x ∈ l, 0 ≤ x ∧ x ≤ 255 := fun x hx => by
  have := h x hx
  simp [Lit.wf, IntKind.min, IntKind.max, IntKind.signed, IntKind.bits] at this
  omega

/-- A loop over the places from i on that stops at the first place where p does not hold. -/
theorem loop_all {l : Nat → Int → Option Bool} {p : Int → Bool} {n : Int} (h : ∀ k i, 0 ≤ i → i ≤ n → l (k + 1) i = if i < n then (if p i = true then l k (i + 1) else some false) else some true) :
    ∀ (d k : Nat) (i : Int), 0 ≤ i → i + d = n → d < k → l k i = some ((List.range d).all fun j => p (i + j)) := by
  intro d
  induction d with
  | zero =>
    intro k i h0 hd hk
    obtain ⟨k, rfl⟩ : ∃ m, k = m + 1 := ⟨k - 1, by omega⟩
    rw [h k i h0 (by omega), if_neg (by omega)]; rfl
  | succ d ih =>
    intro k i h0 hd hk
    obtain ⟨k, rfl⟩ : ∃ m, k = m + 1 := ⟨k - 1, by omega⟩
    rw [h k i h0 (by omega), if_pos (by omega), List.range_succ_eq_map, List.all_cons, List.all_map]
    by_cases hp : p i = true
    · rw [if_pos hp, ih k (i + 1) (by omega) (by omega) (by omega)]
      have e : ∀ j : Nat, i + 1 + (j : Int) = i + ((j + 1 : Nat) : Int) := fun j => by omega
      simp [hp, Function.comp_def, e]
    · rw [if_neg hp]; simp at hp; simp [hp]
/-- A loop that lays f of each place, from i on, into a row as long. -/
theorem loop_set {α : Type} {l : Nat → List α → Int → Option (List α)} {f : Int → α} {n : Nat} (h : ∀ (k : Nat) (xs : List α) (i : Int), xs.length = n → 0 ≤ i → i ≤ n → l (k + 1) xs i = if i < n then l k (xs.set i.toNat (f i)) (i + 1) else some xs) :
    ∀ (d k : Nat) (xs : List α) (i : Nat), xs.length = n → i + d = n → d < k → l k xs i = some (xs.take i ++ (List.range d).map fun j => f ((i + j : Nat) : Int)) := by
  intro d
  induction d with
  | zero =>
    intro k xs i hl hd hk
    obtain ⟨k, rfl⟩ : ∃ m, k = m + 1 := ⟨k - 1, by omega⟩
    rw [h k xs i hl (by omega) (by omega), if_neg (by omega)]
    simp [List.take_of_length_le (show xs.length ≤ i by omega)]
  | succ d ih =>
    intro k xs i hl hd hk
    obtain ⟨k, rfl⟩ : ∃ m, k = m + 1 := ⟨k - 1, by omega⟩
    rw [h k xs i hl (by omega) (by omega), if_pos (by omega)]
    have e := ih k (xs.set (i : Int).toNat (f i)) (i + 1) (by simpa using hl) (by omega) (by omega)
    rw [show ((i + 1 : Nat) : Int) = (i : Int) + 1 by omega] at e
    rw [e, List.range_succ_eq_map, List.map_cons, List.map_map]
    congr 1
    rw [Int.toNat_natCast]
    have hi : i < xs.length := by omega
    rw [List.take_succ_eq_append_getElem (by simpa using hi), List.getElem_set_self, List.take_set_of_le (by omega)]
    simp [Function.comp_def, Nat.add_assoc, Nat.add_comm 1]
theorem loop_set0 {α : Type} {l : Nat → List α → Int → Option (List α)} {f : Int → α} {n : Nat} (h : ∀ (k : Nat) (xs : List α) (i : Int), xs.length = n → 0 ≤ i → i ≤ n → l (k + 1) xs i = if i < n then l k (xs.set i.toNat (f i)) (i + 1) else some xs)
    (k : Nat) (hk : n < k) (xs : List α) (hl : xs.length = n) : l k xs 0 = some ((List.range n).map fun j : Nat => f (j : Int)) := by
  have e := loop_set h n k xs 0 hl (by omega) hk
  simpa using e

/-- The sum of a slice's texts is taken off, one by one: some number is told. -/
theorem sz_ok (l : List S80) (hw : ∀ x ∈ l, W80 x) (hm : l.length ≤ maxLen) (k : Nat) (hk : l.length < k) (a : Int) (ha : 0 ≤ a) (hb : a ≤ 1048576) : ∃ r, laws_szSegS.f k l a = some r ∧ r ≤ 1048576 ∧ (0 ≤ r → l.length ≤ 1048576) := by
  have rw1 : wrap64 (a - (l.length : Int)) = a - l.length := by unfold maxLen at hm; exact w64 (by omega)
  have step : ∀ (d k : Nat) (b i : Int), 0 ≤ b → b ≤ 1048576 → 0 ≤ i → i + d = l.length → d < k → ∃ r, laws_szSegS.l0 k l b i = some r ∧ r ≤ 1048576 := by
    intro d
    induction d with
    | zero =>
      intro k b i hb0 hb1 h0 hd hk
      obtain ⟨k, rfl⟩ : ∃ m, k = m + 1 := ⟨k - 1, by omega⟩
      simp only [laws_szSegS.l0]
      rw [if_neg (by omega)]
      exact ⟨b, rfl, hb1⟩
    | succ d ih =>
      intro k b i hb0 hb1 h0 hd hk
      obtain ⟨k, rfl⟩ : ∃ m, k = m + 1 := ⟨k - 1, by omega⟩
      simp only [laws_szSegS.l0]
      rw [if_pos (by omega), if_pos h0]
      have hx : (rd_T80 l i).f1.size ≤ maxLen := by
        have hi : i.toNat < l.length := by omega
        unfold rd_T80
        rw [List.getD_eq_getElem?_getD, List.getElem?_eq_getElem hi]
        exact (hw _ (List.getElem_mem hi)).2
      have e : laws_szSeg.f (rd_T80 l i).f0 (rd_T80 l i).f1 b = some (if b - ((rd_T80 l i).f1.size : Int) < 0 then -1 else b - ((rd_T80 l i).f1.size : Int)) := by
        unfold laws_szSeg.f
        rw [w64 (x := b - ((rd_T80 l i).f1.size : Int)) (by unfold maxLen at hx; omega)]
        split <;> rfl
      rw [e]
      simp only [Option.bind_some]
      by_cases h : b - ((rd_T80 l i).f1.size : Int) < 0
      · rw [if_pos h, if_pos (by omega)]; exact ⟨-1, rfl, by omega⟩
      · rw [if_neg h, if_neg h, w64 (x := i + 1) (by unfold maxLen at hm; omega)]
        exact ih k _ _ (by omega) (by omega) (by omega) (by omega) (by omega)
  unfold laws_szSegS.f
  rw [rw1]
  by_cases h : a - (l.length : Int) < 0
  · rw [if_pos h]; exact ⟨-1, rfl, by omega, by omega⟩
  · rw [if_neg h]
    obtain ⟨r, hr, hr1⟩ := step l.length k (a - l.length) 0 (by omega) (by omega) (by omega) (by omega) hk
    exact ⟨r, hr, hr1, fun _ => by omega⟩
def cv80 (x : S80) : S81 := ⟨x.f0, x.f1⟩
theorem toSegS_ok (l : List S80) (hm : l.length ≤ 1048576) (k : Nat) (hk : l.length < k) : laws_toSegS.f k l = some (l.map cv80) := by
  unfold laws_toSegS.f
  rw [if_pos (by omega), if_pos (by omega)]
  have h := loop_set0 (l := fun k xs i => laws_toSegS.l0 k l xs i) (f := fun i => cv80 (rd_T80 l i)) (n := l.length) (fun k xs i hl h0 h1 => by
    show laws_toSegS.l0 (k + 1) l xs i = _
    simp only [laws_toSegS.l0, laws_toSeg.f, Option.bind_some]
    by_cases h : i < (l.length : Int)
    · rw [if_pos h, if_pos h, if_pos h0, if_pos (by omega), w64 (x := i + 1) (by omega)]; rfl
    · rw [if_neg h, if_neg h]) k hk (List.replicate ((l.length : Int) : Int).toNat z81) (by simp)
  rw [h]
  congr 1
  apply List.ext_getElem (by simp)
  intro j h1 h2
  simp at h1
  simp [rd_T80, List.getD_eq_getElem?_getD, h1]
def E81 (a b : S81) : Bool := a.f0 == b.f0 && (a.f1.toList == b.f1.toList)
theorem E81_self (a : S81) : E81 a a = true := by simp [E81]
theorem neE (a b : S81) : ((!(a.f0 == b.f0) || (!(a.f1.toList == b.f1.toList))) = true) ↔ ¬ E81 a b = true := by
  unfold E81; cases (a.f0 == b.f0) <;> cases (a.f1.toList == b.f1.toList) <;> simp
/-- Two rows are one in all places. -/
def Es (xs ys : List S81) : Bool := (List.range xs.length).all fun j => E81 (rd_T81 xs (0 + (j : Int))) (rd_T81 ys (0 + (j : Int)))
theorem Es_self (xs : List S81) : Es xs xs = true := by unfold Es; rw [List.all_eq_true]; intro j _; exact E81_self _
theorem eqSegS_ok (xs ys : List S81) (hm : xs.length ≤ 1048576) (hl : xs.length = ys.length) (k : Nat) (hk : xs.length < k) : laws_eqSegS.f k xs ys = some (Es xs ys) := by
  unfold laws_eqSegS.f
  rw [if_pos (by omega)]
  exact loop_all (l := fun k i => laws_eqSegS.l0 k xs ys i) (p := fun i => E81 (rd_T81 xs i) (rd_T81 ys i)) (n := xs.length) (fun k i h0 h1 => by
    show laws_eqSegS.l0 (k + 1) xs ys i = _
    simp only [laws_eqSegS.l0, laws_eqSeg.f]
    by_cases h : i < (xs.length : Int)
    · rw [if_pos h, if_pos h, if_pos h0, if_pos (by omega), w64 (x := i + 1) (by omega)]
      unfold E81
      by_cases c1 : (rd_T81 xs i).f0 = (rd_T81 ys i).f0
      · by_cases c2 : (rd_T81 xs i).f1.toList = (rd_T81 ys i).f1.toList
        · simp [c1, c2]
        · simp [c1, c2]
      · simp [c1]
    · rw [if_neg h, if_neg h]) xs.length k 0 (by omega) (by omega) hk
theorem eqSegS_ne (xs ys : List S81) (hl : xs.length ≠ ys.length) (k : Nat) : laws_eqSegS.f k xs ys = some false := by
  unfold laws_eqSegS.f
  rw [if_neg (by omega)]

/-- What is seen of a row, from a place on. -/
theorem sView_ok (xs : List S81) (c : Int) (hm : xs.length ≤ 1048576) : ∀ (d k : Nat) (ys : List S81) (i : Nat), i + d = xs.length → ys.length ≤ i → d + 20 < k →
    spec_StoreView.l0 k xs c ys i = some (ys ++ (xs.drop i).filter fun x => U x.f0 c) := by
  intro d
  induction d with
  | zero =>
    intro k ys i hd hy hk
    obtain ⟨k, rfl⟩ : ∃ m, k = m + 1 := ⟨k - 1, by omega⟩
    simp only [spec_StoreView.l0]
    rw [if_neg (by omega), List.drop_of_length_le (by omega)]; simp
  | succ d ih =>
    intro k ys i hd hy hk
    obtain ⟨k, rfl⟩ : ∃ m, k = m + 1 := ⟨k - 1, by omega⟩
    have hi : i < xs.length := by omega
    have er : rd_T81 xs (i : Int) = xs[i] := by unfold rd_T81; rw [Int.toNat_natCast, List.getD_eq_getElem?_getD, List.getElem?_eq_getElem hi]; rfl
    simp only [spec_StoreView.l0]
    rw [if_pos (by omega), if_pos (by omega), sU k (by omega), er]
    simp only [Option.bind_some]
    have e1 : wrap64 ((i : Int) + 1) = ((i + 1 : Nat) : Int) := by rw [w64 (by omega)]; rfl
    rw [e1, List.drop_eq_getElem_cons hi, List.filter_cons]
    by_cases h : U xs[i].f0 c = true
    · rw [if_pos h, if_pos h, if_pos (by omega), ih k _ (i + 1) (by omega) (by simp; omega) (by omega)]; simp
    · rw [if_neg h, if_neg h, ih k _ (i + 1) (by omega) (by omega) (by omega)]
theorem iView_ok (xs : List S81) (c : Int) (hm : xs.length ≤ 1048576) : ∀ (d k : Nat) (ys : List S81) (i : Nat), i + d = xs.length → ys.length ≤ i → d < k →
    impl_StoreView.l0 k c ys xs xs.length i = some (ys ++ (xs.drop i).filter fun x => U x.f0 c) := by
  intro d
  induction d with
  | zero =>
    intro k ys i hd hy hk
    obtain ⟨k, rfl⟩ : ∃ m, k = m + 1 := ⟨k - 1, by omega⟩
    simp only [impl_StoreView.l0]
    rw [if_neg (by omega), List.drop_of_length_le (by omega)]; simp
  | succ d ih =>
    intro k ys i hd hy hk
    obtain ⟨k, rfl⟩ : ∃ m, k = m + 1 := ⟨k - 1, by omega⟩
    have hi : i < xs.length := by omega
    have er : rd_T81 xs (i : Int) = xs[i] := by unfold rd_T81; rw [Int.toNat_natCast, List.getD_eq_getElem?_getD, List.getElem?_eq_getElem hi]; rfl
    simp only [impl_StoreView.l0]
    rw [if_pos (by omega), if_pos (by omega), if_pos (by omega), iU, er]
    simp only [Option.bind_some]
    have e1 : wrap64 ((i : Int) + 1) = ((i + 1 : Nat) : Int) := by rw [w64 (by omega)]; rfl
    rw [e1, List.drop_eq_getElem_cons hi, List.filter_cons]
    by_cases h : U xs[i].f0 c = true
    · rw [if_pos h, if_pos h, if_pos (by omega), ih k _ (i + 1) (by omega) (by simp; omega) (by omega)]; simp
    · rw [if_neg h, if_neg h, ih k _ (i + 1) (by omega) (by omega) (by omega)]
/-- A mark's text: some text. -/
theorem markText_l0 : ∀ (d k : Nat) (x : Int) (s : ByteArray), x < 10 ^ d → 0 ≤ x → x ≤ 1000000000 → s.size + d < 1000 → d < k → ∃ t, laws_markText.l0 k x s = some t := by
  intro d
  induction d with
  | zero =>
    intro k x s hx h0 hb hs hk
    obtain ⟨k, rfl⟩ : ∃ m, k = m + 1 := ⟨k - 1, by omega⟩
    simp only [laws_markText.l0]
    rw [if_neg (by omega), if_pos (by omega)]; exact ⟨_, rfl⟩
  | succ d ih =>
    intro k x s hx h0 hb hs hk
    obtain ⟨k, rfl⟩ : ∃ m, k = m + 1 := ⟨k - 1, by omega⟩
    simp only [laws_markText.l0]
    by_cases h : x > 0
    · rw [if_pos h]
      simp only [Option.bind_some]
      have z : ∀ y : List Int, (strOfNums y).size = y.length := fun y => by simp [strOfNums, ByteArray.size]
      have e2 : Int.tdiv x 10 = x / 10 := Int.tdiv_eq_ediv_of_nonneg h0
      have b1 : x / 10 ≤ x := Int.ediv_le_self _ h0
      rw [if_pos (by rw [z]; simp; omega), e2, w64 (x := x / 10) (by omega)]
      refine ih k _ _ ?_ (by omega) (by omega) (by rw [ByteArray.size_append, z]; simp; omega) (by omega)
      rw [Int.pow_succ] at hx; omega
    · rw [if_neg h, if_pos (by omega)]; exact ⟨_, rfl⟩
def MT (n : Int) : ByteArray := (laws_markText.f 20 n).getD ⟨#[]⟩
theorem markText_ok (k : Nat) (hk : 20 ≤ k) (n : Int) (h0 : 0 ≤ n) (h1 : n ≤ 100000000) : laws_markText.f k n = some (MT n) := by
  refine at_rounds (g := fun k => laws_markText.f k n) (fun k => laws_markText.mono _ k) hk ?_
  have : ∃ t, laws_markText.f 20 n = some t := by
    unfold laws_markText.f
    by_cases h : n ≤ 0
    · rw [if_pos h]; exact ⟨_, rfl⟩
    · rw [if_neg h]; exact markText_l0 10 20 n _ (by omega) h0 (by omega) (by decide) (by decide)
  obtain ⟨t, ht⟩ := this
  show laws_markText.f 20 n = _
  unfold MT; rw [ht]; rfl
theorem set_two (xs : List S81) (i : Nat) (a b : S81) : (xs.set i a).set i b = xs.set i b := by simp
def mk81 (a : Int) (j : Nat) : S81 := ⟨a + 2 * j, MT (a + 2 * j + 1)⟩
theorem mark_ok (xs : List S81) (a : Int) (ha : 0 ≤ a) (hm : a + 2 * xs.length ≤ 10000000) : ∀ (d k : Nat) (ys : List S81) (i : Nat), ys.length = xs.length → i + d = xs.length → (∀ j, j < i → ys[j]? = some (mk81 a j)) → d + 20 < k →
    ∃ zs, laws_markSegS.l0 k ys (a + 2 * i) i = some (a + 2 * xs.length, zs) ∧ zs.length = xs.length ∧ ∀ j, j < xs.length → zs[j]? = some (mk81 a j) := by
  intro d
  induction d with
  | zero =>
    intro k ys i hl hd hy hk
    obtain ⟨k, rfl⟩ : ∃ m, k = m + 1 := ⟨k - 1, by omega⟩
    simp only [laws_markSegS.l0]
    rw [if_neg (by omega)]
    exact ⟨ys, by rw [show i = xs.length by omega], hl, fun j hj => hy j (by omega)⟩
  | succ d ih =>
    intro k ys i hl hd hy hk
    obtain ⟨k, rfl⟩ : ∃ m, k = m + 1 := ⟨k - 1, by omega⟩
    simp only [laws_markSegS.l0]
    rw [if_pos (by omega), if_pos (by omega)]
    simp only [Option.bind_some]
    rw [w64 (x := a + 2 * (i : Int) + 1) (by omega), markText_ok k (by omega) _ (by omega) (by omega)]
    simp only [Option.bind_some]
    rw [w64 (x := a + 2 * (i : Int) + 1 + 1) (by omega), w64 (x := (i : Int) + 1) (by omega), Int.toNat_natCast, set_two]
    have hi : i < ys.length := by omega
    have e0 : (rd_T81 (ys.set i ⟨a + 2 * (i : Int), (rd_T81 ys (i : Int)).f1⟩) (i : Int)).f0 = a + 2 * (i : Int) := by
      unfold rd_T81; rw [Int.toNat_natCast, List.getD_eq_getElem?_getD, List.getElem?_set_self hi]; rfl
    rw [e0]
    have := ih k (ys.set i (mk81 a i)) (i + 1) (by simpa using hl) (by omega) (fun j hj => by
      by_cases e : j = i
      · subst e; rw [List.getElem?_set_self hi]
      · rw [List.getElem?_set_ne (by omega)]; exact hy j (by omega)) (by omega)
    have e1 : a + 2 * (i : Int) + 1 + 1 = a + 2 * ((i + 1 : Nat) : Int) := by omega
    have e2 : (i : Int) + 1 = ((i + 1 : Nat) : Int) := by omega
    rw [e1, e2]; exact this
theorem held_ok (zs : List S81) (a : Int) (ha : 0 ≤ a) (hm : a + 2 * zs.length ≤ 10000000) (hz : ∀ j, j < zs.length → zs[j]? = some (mk81 a j)) : ∀ (d k : Nat) (i : Nat), i + d = zs.length → d + 20 < k → laws_heldSegS.l0 k zs (a + 2 * i) i = some (a + 2 * zs.length) := by
  intro d
  induction d with
  | zero =>
    intro k i hd hk
    obtain ⟨k, rfl⟩ : ∃ m, k = m + 1 := ⟨k - 1, by omega⟩
    simp only [laws_heldSegS.l0]
    rw [if_neg (by omega), show i = zs.length by omega]
  | succ d ih =>
    intro k i hd hk
    obtain ⟨k, rfl⟩ : ∃ m, k = m + 1 := ⟨k - 1, by omega⟩
    simp only [laws_heldSegS.l0]
    have er : rd_T81 zs (i : Int) = mk81 a i := by unfold rd_T81; rw [Int.toNat_natCast, List.getD_eq_getElem?_getD, hz i (by omega)]; rfl
    rw [if_pos (by omega), if_pos (by omega), er, if_pos (show (mk81 a i).f0 = a + 2 * (i : Int) from rfl), w64 (x := a + 2 * (i : Int) + 1) (by omega), markText_ok k (by omega) _ (by omega) (by omega)]
    simp only [Option.bind_some]
    rw [if_pos (show (mk81 a i).f1.toList = (MT (a + 2 * (i : Int) + 1)).toList from rfl), w64 (x := a + 2 * (i : Int) + 1 + 1) (by omega), w64 (x := (i : Int) + 1) (by omega)]
    have e1 : a + 2 * (i : Int) + 1 + 1 = a + 2 * ((i + 1 : Nat) : Int) := by omega
    have e2 : (i : Int) + 1 = ((i + 1 : Nat) : Int) := by omega
    rw [e1, e2]; exact ih k (i + 1) (by omega) (by omega)
theorem markSegS_ok (xs : List S81) (hm : xs.length ≤ 1048576) (k : Nat) (hk : xs.length + 20 < k) : ∃ zs, laws_markSegS.f k xs 1 = some (1 + 2 * (xs.length : Int), zs) ∧ laws_heldSegS.f k zs 1 = some (1 + 2 * (xs.length : Int)) := by
  obtain ⟨zs, h1, h2, h3⟩ := mark_ok xs 1 (by omega) (by omega) xs.length k xs 0 rfl (by omega) (fun j hj => by omega) hk
  refine ⟨zs, by unfold laws_markSegS.f; simpa using h1, ?_⟩
  have h4 := held_ok zs 1 (by omega) (by omega) (fun j hj => h3 j (by omega)) zs.length k 0 (by omega) (by omega)
  unfold laws_heldSegS.f
  rw [h2] at h4
  simpa using h4
theorem FnExactStoreView : laws_FnExactStoreView.Pure := by
  intro l c m w _
  obtain ⟨k, hk⟩ : ∃ k, k = l.length + 40 := ⟨_, rfl⟩
  refine ⟨k + 1, ?_⟩
  unfold laws_FnExactStoreView.f
  obtain ⟨r, hr, _, hr2⟩ := sz_ok l w m (k + 1) (by omega) 1048576 (by omega) (by omega)
  rw [hr]; simp only [Option.bind_some]
  by_cases h : r < 0
  · rw [if_pos h]
  rw [if_neg h]
  have a0 := hr2 (by omega)
  have e0 : (l.map cv80).length = l.length := by simp
  have hs : ∀ q, l.length + 20 < q → spec_StoreView.f q (l.map cv80) c = some ((l.map cv80).filter fun x => U x.f0 c) := fun q hq => by
    have := sView_ok (l.map cv80) c (by omega) l.length q [] 0 (by omega) (by simp) (by omega)
    unfold spec_StoreView.f; simpa using this
  have hi : ∀ q, l.length + 20 < q → impl_StoreView.f q (l.map cv80) c = some ((l.map cv80).filter fun x => U x.f0 c) := fun q hq => by
    have := iView_ok (l.map cv80) c (by omega) l.length q [] 0 (by omega) (by simp) (by omega)
    unfold impl_StoreView.f; simpa using this
  obtain ⟨zs, hz, _⟩ := markSegS_ok (l.map cv80) (by omega) (k + 1) (by omega)
  simp only [toSegS_ok l a0 (k + 1) (by omega), hs (k + 1) (by omega), hi (k + 1) (by omega), Option.bind_some]
  have lf : ((l.map cv80).filter fun x => U x.f0 c).length ≤ l.length := by rw [← e0]; exact List.length_filter_le _ _
  generalize ((l.map cv80).filter fun x => U x.f0 c) = V at *
  rw [eqSegS_ok V V (by omega) rfl (k + 1) (by omega), Es_self]
  simp only [Option.bind_some, if_true]
  rw [eqSegS_ok (l.map cv80) (l.map cv80) (by omega) rfl (k + 1) (by omega), Es_self]
  simp only [Option.bind_some, if_true]
  rw [hz]
  simp only [Option.bind_some]
  rw [if_neg (by omega)]
  simp only [laws_FnExactStoreView.j0, Bool.not_true, Bool.false_eq_true, if_false]
  obtain ⟨vs, hv1, hv2⟩ := markSegS_ok V (by omega) k (by omega)
  rw [hv1]
  simp only [Option.bind_some]
  rw [hv2]
  simp only [Option.bind_some]
  rw [if_neg (by omega)]
  simp only [if_true, toSegS_ok l a0 k (by omega), hi k (by omega), Option.bind_some]
  rw [eqSegS_ok V V (by omega) rfl k (by omega), Es_self]
  simp only [Option.bind_some, if_true]
  rw [if_neg (by omega)]

end Go.Proofs.Ytomkkhkfenmdlaa.Pure
