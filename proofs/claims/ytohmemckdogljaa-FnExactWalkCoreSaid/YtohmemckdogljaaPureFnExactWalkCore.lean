/- The plain law behind FnExactWalkCore: of every graph both functions give the same numbers, in memory of their own. -/
import Derived.Test.YtohmemckdogljaaQFnExactWalkCoreOpen
namespace Go.Proofs.Ytohmemckdogljaa.Pure
open Go.RowKit Go.Proofs.Ytohmemckdogljaa.QFnExactWalkCore Go.Proofs.YtohmemckdogljaaW.PrintWords Go.Proofs.YtohmemckdogljaaW.PrintLast
set_option linter.unusedSimpArgs false
set_option linter.unusedVariables false

open Go.Proofs.Ytohmemckdogljaa.Bl
theorem w64 {x : Int} (h : -9223372036854775808 ≤ x ∧ x ≤ 9223372036854775807) : wrap64 x = x := by unfold wrap64; omega
theorem rdB {b : List Int} (hb : ∀ x ∈ b, 0 ≤ x ∧ x ≤ 255) (i : Int) : 0 ≤ rd b i ∧ rd b i ≤ 255 := by
  unfold rd
  rw [List.getD_eq_getElem?_getD]
  cases h : b[i.toNat]? with
  | none => simp
  | some v => exact hb v (List.mem_of_getElem? h)
theorem u8B {l : List Int} (h : ∀ x ∈ l, (Lit.int .u8 x).wf = true) : ∀ x ∈ l, 0 ≤ x ∧ x ≤ 255 := fun x hx => by
  have := h x hx
  simp [Lit.wf, IntKind.min, IntKind.max, IntKind.signed, IntKind.bits] at this
  omega

/-- A loop over the places from i on that stops at the first place where p does not hold. -/
theorem loop_all {l : Nat → Int → Option Bool} {p : Int → Bool} {n : Int} (h : ∀ k i, 0 ≤ i → i ≤ n → l (k + 1) i = if i < n then (if p i = true then l k (i + 1) else some false) else some true) :
    ∀ (d k : Nat) (i : Int), 0 ≤ i → i + d = n → d < k → l k i = some ((List.range d).all fun j => p (i + j)) := by
  intro d
  induction d with
  | zero =>
    intro k i h0 hd hk
    obtain ⟨k, rfl⟩ : ∃ m, k = m + 1 := ⟨k - 1, by omega⟩
    rw [h k i h0 (by omega), if_neg (by omega)]; rfl
  | succ d ih =>
    intro k i h0 hd hk
    obtain ⟨k, rfl⟩ : ∃ m, k = m + 1 := ⟨k - 1, by omega⟩
    rw [h k i h0 (by omega), if_pos (by omega), List.range_succ_eq_map, List.all_cons, List.all_map]
    by_cases hp : p i = true
    · rw [if_pos hp, ih k (i + 1) (by omega) (by omega) (by omega)]
      have e : ∀ j : Nat, i + 1 + (j : Int) = i + ((j + 1 : Nat) : Int) := fun j => by omega
      simp [hp, Function.comp_def, e]
    · rw [if_neg hp]; simp at hp; simp [hp]
/-- A loop that lays f of each place, from i on, into a row as long. -/
theorem loop_set {α : Type} {l : Nat → List α → Int → Option (List α)} {f : Int → α} {n : Nat} (h : ∀ (k : Nat) (xs : List α) (i : Int), xs.length = n → 0 ≤ i → i ≤ n → l (k + 1) xs i = if i < n then l k (xs.set i.toNat (f i)) (i + 1) else some xs) :
    ∀ (d k : Nat) (xs : List α) (i : Nat), xs.length = n → i + d = n → d < k → l k xs i = some (xs.take i ++ (List.range d).map fun j => f ((i + j : Nat) : Int)) := by
  intro d
  induction d with
  | zero =>
    intro k xs i hl hd hk
    obtain ⟨k, rfl⟩ : ∃ m, k = m + 1 := ⟨k - 1, by omega⟩
    rw [h k xs i hl (by omega) (by omega), if_neg (by omega)]
    simp [List.take_of_length_le (show xs.length ≤ i by omega)]
  | succ d ih =>
    intro k xs i hl hd hk
    obtain ⟨k, rfl⟩ : ∃ m, k = m + 1 := ⟨k - 1, by omega⟩
    rw [h k xs i hl (by omega) (by omega), if_pos (by omega)]
    have e := ih k (xs.set (i : Int).toNat (f i)) (i + 1) (by simpa using hl) (by omega) (by omega)
    rw [show ((i + 1 : Nat) : Int) = (i : Int) + 1 by omega] at e
    rw [e, List.range_succ_eq_map, List.map_cons, List.map_map]
    congr 1
    rw [Int.toNat_natCast]
    have hi : i < xs.length := by omega
    rw [List.take_succ_eq_append_getElem (by simpa using hi), List.getElem_set_self, List.take_set_of_le (by omega)]
    simp [Function.comp_def, Nat.add_assoc, Nat.add_comm 1]
theorem loop_set0 {α : Type} {l : Nat → List α → Int → Option (List α)} {f : Int → α} {n : Nat} (h : ∀ (k : Nat) (xs : List α) (i : Int), xs.length = n → 0 ≤ i → i ≤ n → l (k + 1) xs i = if i < n then l k (xs.set i.toNat (f i)) (i + 1) else some xs)
    (k : Nat) (hk : n < k) (xs : List α) (hl : xs.length = n) : l k xs 0 = some ((List.range n).map fun j : Nat => f (j : Int)) := by
  have e := loop_set h n k xs 0 hl (by omega) hk
  simpa using e

def cvN (x : S27) : S36 := ⟨x.f0, x.f1⟩
def cvE (x : S70) : S56 := ⟨x.f0, ⟨x.f1.f0, x.f1.f1⟩, ⟨x.f2.f0, x.f2.f1⟩⟩
theorem toNodeS_ok (l : List S27) (hm : l.length ≤ 1048576) (k : Nat) (hk : l.length < k) : laws_toNodeS.f k l = some (l.map cvN) := by
  unfold laws_toNodeS.f
  rw [if_pos (by omega), if_pos (by omega)]
  have h := loop_set0 (l := fun k xs i => laws_toNodeS.l0 k l xs i) (f := fun i => cvN (rd_T27 l i)) (n := l.length) (fun k xs i hl h0 h1 => by
    show laws_toNodeS.l0 (k + 1) l xs i = _
    simp only [laws_toNodeS.l0, laws_toNode.f, Option.bind_some]
    by_cases h : i < (l.length : Int)
    · rw [if_pos h, if_pos h, if_pos h0, if_pos (by omega), w64 (x := i + 1) (by omega)]; rfl
    · rw [if_neg h, if_neg h]) k hk (List.replicate ((l.length : Int) : Int).toNat z36) (by simp)
  rw [h]
  congr 1
  apply List.ext_getElem (by simp)
  intro j h1 h2
  simp at h1
  simp [rd_T27, List.getD_eq_getElem?_getD, h1]
theorem toEdgeS_ok (l : List S70) (hm : l.length ≤ 1048576) (k : Nat) (hk : l.length < k) : laws_toEdgeS.f k l = some (l.map cvE) := by
  unfold laws_toEdgeS.f
  rw [if_pos (by omega), if_pos (by omega)]
  have h := loop_set0 (l := fun k xs i => laws_toEdgeS.l0 k l xs i) (f := fun i => cvE (rd_T70 l i)) (n := l.length) (fun k xs i hl h0 h1 => by
    show laws_toEdgeS.l0 (k + 1) l xs i = _
    simp only [laws_toEdgeS.l0, laws_toEdge.f, laws_toNode.f, Option.bind_some]
    by_cases h : i < (l.length : Int)
    · rw [if_pos h, if_pos h, if_pos h0, if_pos (by omega), w64 (x := i + 1) (by omega)]; rfl
    · rw [if_neg h, if_neg h]) k hk (List.replicate ((l.length : Int) : Int).toNat z56) (by simp)
  rw [h]
  congr 1
  apply List.ext_getElem (by simp)
  intro j h1 h2
  simp at h1
  simp [rd_T70, List.getD_eq_getElem?_getD, h1]
theorem toGraph_ok (a : List S27) (b : List S70) (ha : a.length ≤ 1048576) (hb : b.length ≤ 1048576) (k : Nat) (hk : a.length + b.length < k) : laws_toGraph.f k a b = some (a.map cvN, b.map cvE) := by
  unfold laws_toGraph.f
  rw [toNodeS_ok a ha k (by omega), toEdgeS_ok b hb k (by omega)]; rfl
theorem szGraph_ok (a : List S27) (b : List S70) (ha : a.length ≤ maxLen) (hb : b.length ≤ maxLen) (n : Int) (h0 : 0 ≤ n) (h1 : n ≤ 1048576) :
    ∃ r, laws_szGraph.f a b n = some r ∧ r ≤ n ∧ (0 ≤ r → a.length + b.length + r = n) := by
  unfold maxLen at ha hb
  unfold laws_szGraph.f laws_szNodeS.f laws_szEdgeS.f
  rw [w64 (x := n - (a.length : Int)) (by omega)]
  by_cases h : n - (a.length : Int) < 0
  · rw [if_pos h]; simp only [Option.bind_some]; rw [if_pos (by omega)]; exact ⟨-1, rfl, by omega, by omega⟩
  · rw [if_neg h]; simp only [Option.bind_some]; rw [if_neg h, w64 (x := n - (a.length : Int) - (b.length : Int)) (by omega)]
    by_cases h' : n - (a.length : Int) - (b.length : Int) < 0
    · rw [if_pos h']; simp only [Option.bind_some]; rw [if_pos (by omega)]; exact ⟨-1, rfl, by omega, by omega⟩
    · rw [if_neg h']; simp only [Option.bind_some]; rw [if_neg h']; exact ⟨_, rfl, by omega, by omega⟩
def EN (a b : S36) : Bool := a.f0 == b.f0 && (a.f1 == b.f1)
def EE (a b : S56) : Bool := a.f0 == b.f0 && ((a.f1.f0 == b.f1.f0 && (a.f1.f1 == b.f1.f1)) && (a.f2.f0 == b.f2.f0 && (a.f2.f1 == b.f2.f1)))
theorem EN_self (a : S36) : EN a a = true := by simp [EN]
theorem EE_self (a : S56) : EE a a = true := by simp [EE]
def Ns (xs ys : List S36) : Bool := (List.range xs.length).all fun j => EN (rd_T36 xs (0 + (j : Int))) (rd_T36 ys (0 + (j : Int)))
def Ed (xs ys : List S56) : Bool := (List.range xs.length).all fun j => EE (rd_T56 xs (0 + (j : Int))) (rd_T56 ys (0 + (j : Int)))
theorem Ns_self (xs : List S36) : Ns xs xs = true := by unfold Ns; rw [List.all_eq_true]; intro j _; exact EN_self _
theorem Ed_self (xs : List S56) : Ed xs xs = true := by unfold Ed; rw [List.all_eq_true]; intro j _; exact EE_self _
theorem eqNodeS_ok (xs ys : List S36) (hm : xs.length ≤ 2097152) (hl : xs.length = ys.length) (k : Nat) (hk : xs.length < k) : laws_eqNodeS.f k xs ys = some (Ns xs ys) := by
  unfold laws_eqNodeS.f
  rw [if_pos (by omega)]
  exact loop_all (l := fun k i => laws_eqNodeS.l0 k xs ys i) (p := fun i => EN (rd_T36 xs i) (rd_T36 ys i)) (n := xs.length) (fun k i h0 h1 => by
    show laws_eqNodeS.l0 (k + 1) xs ys i = _
    simp only [laws_eqNodeS.l0, laws_eqNode.f]
    by_cases h : i < (xs.length : Int)
    · rw [if_pos h, if_pos h, if_pos h0, if_pos (by omega), w64 (x := i + 1) (by omega)]
      unfold EN
      by_cases c1 : (rd_T36 xs i).f0 = (rd_T36 ys i).f0
      · by_cases c2 : (rd_T36 xs i).f1 = (rd_T36 ys i).f1
        · simp [c1, c2]
        · simp [c1, c2]
      · simp [c1]
    · rw [if_neg h, if_neg h]) xs.length k 0 (by omega) (by omega) hk
theorem eqEdge_ok (a b : S56) : laws_eqEdge.f a.f0 a.f1.f0 a.f1.f1 a.f2.f0 a.f2.f1 b.f0 b.f1.f0 b.f1.f1 b.f2.f0 b.f2.f1 = some (EE a b) := by
  unfold laws_eqEdge.f laws_eqNode.f EE
  by_cases c0 : a.f0 = b.f0 <;> by_cases c1 : a.f1.f0 = b.f1.f0 <;> by_cases c2 : a.f1.f1 = b.f1.f1 <;> by_cases c3 : a.f2.f0 = b.f2.f0 <;> by_cases c4 : a.f2.f1 = b.f2.f1 <;> simp [c0, c1, c2, c3, c4]
theorem eqEdgeS_ok (xs ys : List S56) (hm : xs.length ≤ 2097152) (hl : xs.length = ys.length) (k : Nat) (hk : xs.length < k) : laws_eqEdgeS.f k xs ys = some (Ed xs ys) := by
  unfold laws_eqEdgeS.f
  rw [if_pos (by omega)]
  exact loop_all (l := fun k i => laws_eqEdgeS.l0 k xs ys i) (p := fun i => EE (rd_T56 xs i) (rd_T56 ys i)) (n := xs.length) (fun k i h0 h1 => by
    show laws_eqEdgeS.l0 (k + 1) xs ys i = _
    simp only [laws_eqEdgeS.l0]
    by_cases h : i < (xs.length : Int)
    · rw [if_pos h, if_pos h, if_pos h0, if_pos (by omega), w64 (x := i + 1) (by omega), eqEdge_ok]; rfl
    · rw [if_neg h, if_neg h]) xs.length k 0 (by omega) (by omega) hk
/-- A graph is the same as itself. -/
theorem eqGraph_self (xs : List S36) (ys : List S56) (hx : xs.length ≤ 2097152) (hy : ys.length ≤ 2097152) (k : Nat) (hk : xs.length + ys.length < k) : laws_eqGraph.f k xs ys xs ys = some true := by
  unfold laws_eqGraph.f
  rw [eqNodeS_ok xs xs hx rfl k (by omega), Ns_self, eqEdgeS_ok ys ys hy rfl k (by omega), Ed_self]; rfl

/-- Nodes are right and ascend, from a number on. -/
def Asc : List S36 → Int → Bool
  | [], _ => true
  | x :: xs, last => decide (last < Cd x.f0 x.f1) && Asc xs (Cd x.f0 x.f1)
/-- How many nodes there are of a label. -/
def cN (a : Int) (xs : List S36) : Nat := (xs.filter fun x => x.f0 == a).length
def cE (a : Int) (xs : List S56) : Nat := (xs.filter fun x => x.f0 == a).length
/-- Nodes as the program goes through them. -/
def NR : List S36 → Int → List Int → Bool
  | [], _, _ => true
  | x :: xs, last, m => if Cd x.f0 x.f1 ≤ last then false else if rd m x.f0 = 5 then false else NR xs (Cd x.f0 x.f1) (m.set x.f0.toNat (wrap64 (rd m x.f0 + 1)))
theorem rdT_at {xs : List S36} {i : Nat} (h : i < xs.length) : rd_T36 xs (i : Int) = xs[i] := by
  unfold rd_T36; rw [Int.toNat_natCast, List.getD_eq_getElem?_getD, List.getElem?_eq_getElem h]; rfl
theorem rdE_at {xs : List S56} {i : Nat} (h : i < xs.length) : rd_T56 xs (i : Int) = xs[i] := by
  unfold rd_T56; rw [Int.toNat_natCast, List.getD_eq_getElem?_getD, List.getElem?_eq_getElem h]; rfl
theorem nodesOk_l0 (xs : List S36) (hm : xs.length ≤ 2097152) : ∀ (d k : Nat) (i : Nat) (last : Int) (m : List Int), i + d = xs.length → d < k → impl_nodesOk.l0 k xs last m i = some (NR (xs.drop i) last m) := by
  intro d
  induction d with
  | zero =>
    intro k i last m hd hk
    obtain ⟨k, rfl⟩ : ∃ m, k = m + 1 := ⟨k - 1, by omega⟩
    simp only [impl_nodesOk.l0]
    rw [if_neg (by omega), List.drop_of_length_le (by omega)]; rfl
  | succ d ih =>
    intro k i last m hd hk
    obtain ⟨k, rfl⟩ : ∃ m, k = m + 1 := ⟨k - 1, by omega⟩
    have hi : i < xs.length := by omega
    simp only [impl_nodesOk.l0]
    rw [if_pos (by omega), if_pos (by omega), rdT_at hi, List.drop_eq_getElem_cons hi]
    simp only [NR]
    have e := ih k (i + 1)
    rw [show ((i + 1 : Nat) : Int) = (i : Int) + 1 by omega] at e
    rw [w64 (x := (i : Int) + 1) (by omega)]
    split
    · rfl
    · split
      · rfl
      · exact e _ _ (by omega) (by omega)
/-- The counts hold what they should, and none is over five. -/
theorem NR_eq : ∀ (xs : List S36) (last : Int) (m : List Int), -1 ≤ last → m.length = 8 → (∀ a : Nat, a < 8 → 0 ≤ rd m a ∧ rd m a ≤ 5) →
    NR xs last m = (Asc xs last && (List.range 8).all fun a => decide (rd m a + cN a xs ≤ 5))
  | [], last, m, h0, hl, hm => by
    have : ((List.range 8).all fun a => decide (rd m a + cN a ([] : List S36) ≤ 5)) = true := by
      rw [List.all_eq_true]
      intro a ha
      have := hm a (List.mem_range.1 ha)
      simp [cN]; omega
    rw [this]; rfl
  | x :: xs, last, m, h0, hl, hm => by
    simp only [NR, Asc]
    by_cases c : Cd x.f0 x.f1 ≤ last
    · rw [if_pos c, decide_eq_false (by omega)]; rfl
    · rw [if_neg c, decide_eq_true (by omega : last < Cd x.f0 x.f1), Bool.true_and]
      obtain ⟨e1, e2, e3, e4, e5⟩ := Cd_ok (a := x.f0) (b := x.f1) (by omega)
      obtain ⟨j, hj⟩ := Int.eq_ofNat_of_zero_le e2
      rw [hj]
      have hj8 : j < 8 := by omega
      have hmj := hm j hj8
      by_cases c2 : rd m (j : Int) = 5
      · rw [if_pos c2]
        have : ((List.range 8).all fun a => decide (rd m a + cN a (x :: xs) ≤ 5)) = false := by
          rw [List.all_eq_false]
          refine ⟨j, List.mem_range.2 hj8, ?_⟩
          have : 1 ≤ cN (j : Int) (x :: xs) := by simp [cN, hj]
          simp; omega
        rw [this, Bool.and_false]
      · rw [if_neg c2, ← hj, w64 (x := rd m x.f0 + 1) (by rw [hj]; omega)]
        have hr : ∀ a : Nat, a < 8 → rd (m.set x.f0.toNat (rd m x.f0 + 1)) a = if a = j then rd m a + 1 else rd m a := by
          intro a ha
          rw [hj, Int.toNat_natCast]
          unfold rd
          simp only [Int.toNat_natCast, List.getD_eq_getElem?_getD, List.getElem?_set]
          by_cases q : j = a
          · subst q; simp [hl, hj8]
          · rw [if_neg q, if_neg (fun h => q h.symm)]
        rw [NR_eq xs (Cd x.f0 x.f1) _ (by omega) (by simpa using hl) (fun a ha => by
          rw [hr a ha]; have := hm a ha; split
          · rename_i q; subst q; omega
          · omega)]
        congr 1
        apply Bool.eq_iff_iff.2
        rw [List.all_eq_true, List.all_eq_true]
        have hc : ∀ a : Nat, a < 8 → (rd (m.set x.f0.toNat (rd m x.f0 + 1)) a + cN a xs = rd m a + cN a (x :: xs)) := by
          intro a ha
          rw [hr a ha]
          by_cases q : a = j
          · subst q; rw [if_pos rfl]; simp [cN, hj]; omega
          · rw [if_neg q]
            have : ¬ ((x.f0 == (a : Int)) = true) := by rw [hj]; simp; omega
            simp [cN, List.filter_cons, this]
        constructor
        · intro h a ha; have := h a ha; have e := hc a (List.mem_range.1 ha); simp at this ⊢; omega
        · intro h a ha; have := h a ha; have e := hc a (List.mem_range.1 ha); simp at this ⊢; omega
theorem Asc_ok : ∀ (xs : List S36) (last : Int), -1 ≤ last → Asc xs last = true → ∀ x ∈ xs, nOk x.f0 x.f1 = true ∧ last < Cd x.f0 x.f1
  | [], _, _, _, x, hx => by cases hx
  | y :: xs, last, h0, h, x, hx => by
    simp only [Asc, Bool.and_eq_true, decide_eq_true_eq] at h
    have c := Cd_ok (a := y.f0) (b := y.f1) (by omega)
    rcases List.mem_cons.1 hx with rfl | hx
    · exact ⟨nOk_iff.2 ⟨⟨c.2.1, c.2.2.1⟩, ⟨c.2.2.2.1, c.2.2.2.2⟩⟩, h.1⟩
    · have := Asc_ok xs _ (by omega) h.2 x hx
      exact ⟨this.1, by omega⟩
theorem len_sum : ∀ (xs : List S36), (∀ x ∈ xs, 0 ≤ x.f0 ∧ x.f0 ≤ 7) → xs.length = cN 0 xs + cN 1 xs + cN 2 xs + cN 3 xs + cN 4 xs + cN 5 xs + cN 6 xs + cN 7 xs
  | [], _ => by simp [cN]
  | x :: xs, h => by
    have ih := len_sum xs (fun y hy => h y (List.mem_cons_of_mem _ hy))
    have hx := h x (List.mem_cons_self ..)
    have e : ∀ a : Int, cN a (x :: xs) = cN a xs + if x.f0 = a then 1 else 0 := by
      intro a
      by_cases c : x.f0 = a
      · simp [cN, List.filter_cons, c]
      · simp [cN, List.filter_cons, c]
    simp only [e, List.length_cons]
    rcases (show x.f0 = 0 ∨ x.f0 = 1 ∨ x.f0 = 2 ∨ x.f0 = 3 ∨ x.f0 = 4 ∨ x.f0 = 5 ∨ x.f0 = 6 ∨ x.f0 = 7 by omega) with c | c | c | c | c | c | c | c <;> rw [c] <;> simp <;> omega
theorem len_sumE : ∀ (xs : List S56), (∀ x ∈ xs, 0 ≤ x.f0 ∧ x.f0 ≤ 7) → xs.length = cE 0 xs + cE 1 xs + cE 2 xs + cE 3 xs + cE 4 xs + cE 5 xs + cE 6 xs + cE 7 xs
  | [], _ => by simp [cE]
  | x :: xs, h => by
    have ih := len_sumE xs (fun y hy => h y (List.mem_cons_of_mem _ hy))
    have hx := h x (List.mem_cons_self ..)
    have e : ∀ a : Int, cE a (x :: xs) = cE a xs + if x.f0 = a then 1 else 0 := by
      intro a
      by_cases c : x.f0 = a
      · simp [cE, List.filter_cons, c]
      · simp [cE, List.filter_cons, c]
    simp only [e, List.length_cons]
    rcases (show x.f0 = 0 ∨ x.f0 = 1 ∨ x.f0 = 2 ∨ x.f0 = 3 ∨ x.f0 = 4 ∨ x.f0 = 5 ∨ x.f0 = 6 ∨ x.f0 = 7 by omega) with c | c | c | c | c | c | c | c <;> rw [c] <;> simp <;> omega
/-- The nodes' part of the document's function. -/
theorem specN_l0 (ns : List S36) (es : List S56) (hm : ns.length ≤ 2097152) (R : Option Bool) (K : Nat) (hR : ∀ k, K ≤ k → spec_GraphOk.l1 k 0 ns es = R) : ∀ (d k : Nat) (i : Nat) (last : Int), i + d = ns.length → i ≤ 40 →
    (i = 0 ∧ last = -1 ∨ 0 < i ∧ ∃ h : i - 1 < ns.length, nOk (ns[i - 1]).f0 (ns[i - 1]).f1 = true ∧ last = Cd (ns[i - 1]).f0 (ns[i - 1]).f1) → K + d < k →
    spec_GraphOk.l0 k i ns es = if (Asc (ns.drop i) last && decide (ns.length ≤ 40)) = true then R else some false := by
  intro d
  induction d with
  | zero =>
    intro k i last hd h40 hl hk
    obtain ⟨k, rfl⟩ : ∃ m, k = m + 1 := ⟨k - 1, by omega⟩
    simp only [spec_GraphOk.l0]
    rw [if_neg (by omega), List.drop_of_length_le (by omega), hR k (by omega), if_pos (by simp [Asc]; omega)]
  | succ d ih =>
    intro k i last hd h40 hl hk
    obtain ⟨k, rfl⟩ : ∃ m, k = m + 1 := ⟨k - 1, by omega⟩
    have hi : i < ns.length := by omega
    simp only [spec_GraphOk.l0]
    have ih' := ih k (i + 1) (Cd (ns[i]).f0 (ns[i]).f1) (by omega)
    rw [if_pos (by omega), if_pos (by omega), rdT_at hi, List.drop_eq_getElem_cons hi, sN]
    simp only [Option.bind_some, Asc]
    by_cases c : nOk (ns[i]).f0 (ns[i]).f1 = true
    · have cd : Cd (ns[i]).f0 (ns[i]).f1 = 64 * (ns[i]).f0 + (ns[i]).f1 := by unfold Cd; rw [if_pos c]
      have cn := nOk_iff.1 c
      rw [if_pos c]
      have fin : (if (i : Int) ≥ 40 then some false else spec_GraphOk.l0 k (wrap64 ((i : Int) + 1)) ns es) = if (Asc (ns.drop (i + 1)) (Cd (ns[i]).f0 (ns[i]).f1) && decide (ns.length ≤ 40)) = true then R else some false := by
        by_cases c4 : (i : Int) ≥ 40
        · rw [if_pos c4]; simp only [show ¬ ns.length ≤ 40 by omega, decide_false, Bool.and_false, Bool.false_eq_true, if_false]
        · rw [if_neg c4, w64 (x := (i : Int) + 1) (by omega), show (i : Int) + 1 = ((i + 1 : Nat) : Int) by omega]
          exact ih' (by omega) (.inr ⟨by omega, by simpa using hi, by simpa using c, by simp⟩) (by omega)
      rcases hl with ⟨h0, hl⟩ | ⟨h0, h1, h2, h3⟩
      · rw [if_neg (by omega), fin]; simp only [show last < Cd (ns[i]).f0 (ns[i]).f1 by omega, decide_true, Bool.true_and]
      · rw [if_pos (by omega), w64 (x := (i : Int) - 1) (by omega), if_pos (by omega), if_pos (by omega), show (i : Int) - 1 = ((i - 1 : Nat) : Int) by omega, rdT_at h1, sC2 h2, sC2 c]
        simp only [Option.bind_some]
        have cp : Cd (ns[i - 1]).f0 (ns[i - 1]).f1 = 64 * (ns[i - 1]).f0 + (ns[i - 1]).f1 := by unfold Cd; rw [if_pos h2]
        by_cases c3 : 64 * (ns[i - 1]).f0 + (ns[i - 1]).f1 ≥ 64 * (ns[i]).f0 + (ns[i]).f1
        · rw [if_pos c3]; simp only [show ¬ last < Cd (ns[i]).f0 (ns[i]).f1 by omega, decide_false, Bool.false_and, Bool.false_eq_true, if_false]
        · rw [if_neg c3, fin]; simp only [show last < Cd (ns[i]).f0 (ns[i]).f1 by omega, decide_true, Bool.true_and]
    · rw [if_neg c]
      have : Cd (ns[i]).f0 (ns[i]).f1 = -1 := by unfold Cd; rw [if_neg c]
      have hl' : -1 ≤ last := by
        rcases hl with ⟨_, h⟩ | ⟨_, h1, h2, h3⟩
        · omega
        · rw [h3]; unfold Cd; rw [if_pos h2]; have := nOk_iff.1 h2; omega
      simp only [show ¬ last < Cd (ns[i]).f0 (ns[i]).f1 by omega, decide_false, Bool.false_and, Bool.false_eq_true, if_false]
/-- A node is among them. -/
def In (ns : List S36) (a b : Int) : Bool := ns.any fun x => x.f0 == a && (x.f1 == b)
/-- An edge stands ahead of another one. -/
def Lt (p e : S56) : Bool := if p.f0 = e.f0 then (if p.f1.f0 = e.f1.f0 ∧ p.f1.f1 = e.f1.f1 then decide (Cd p.f2.f0 p.f2.f1 < Cd e.f2.f0 e.f2.f1) else decide (Cd p.f1.f0 p.f1.f1 < Cd e.f1.f0 e.f1.f1)) else decide (p.f0 < e.f0)
def Eo (e : S56) : Bool := EOk e.f0 e.f1.f0 e.f1.f1 e.f2.f0 e.f2.f1
/-- Edges are right, ascend, and stand between nodes that are there. -/
def EAsc (ns : List S36) : List S56 → Option S56 → Bool
  | [], _ => true
  | e :: es, p => Eo e && ((match p with | some p => Lt p e | none => true) && (In ns e.f1.f0 e.f1.f1 && (In ns e.f2.f0 e.f2.f1 && EAsc ns es (some e))))
theorem at_l0 (ns : List S36) (es : List S56) (hm : ns.length ≤ 2097152) (a b : Int) : ∀ (d k : Nat) (i : Nat), i + d = ns.length → d < k → ∃ r, spec_l2At.l0 k i ns es a b = some r ∧ decide (r < 0) = !In (ns.drop i) a b := by
  intro d
  induction d with
  | zero =>
    intro k i hd hk
    obtain ⟨k, rfl⟩ : ∃ m, k = m + 1 := ⟨k - 1, by omega⟩
    simp only [spec_l2At.l0]
    rw [if_neg (by omega), List.drop_of_length_le (by omega)]
    exact ⟨-1, rfl, by simp [In]⟩
  | succ d ih =>
    intro k i hd hk
    obtain ⟨k, rfl⟩ : ∃ m, k = m + 1 := ⟨k - 1, by omega⟩
    have hi : i < ns.length := by omega
    simp only [spec_l2At.l0]
    rw [if_pos (by omega), if_pos (by omega), rdT_at hi, List.drop_eq_getElem_cons hi]
    by_cases c : ((ns[i]).f0 == a && ((ns[i]).f1 == b)) = true
    · rw [if_pos c]; exact ⟨i, rfl, by simp only [In, List.any_cons, c, Bool.true_or]; simp⟩
    · rw [if_neg c, w64 (x := (i : Int) + 1) (by omega), show (i : Int) + 1 = ((i + 1 : Nat) : Int) by omega]
      obtain ⟨r, h1, h2⟩ := ih k (i + 1) (by omega) (by omega)
      refine ⟨r, h1, ?_⟩
      rw [h2]
      simp only [Bool.not_eq_true] at c
      simp only [In, List.any_cons, c, Bool.false_or]
theorem at_ok (ns : List S36) (es : List S56) (hm : ns.length ≤ 2097152) (a b : Int) (k : Nat) (hk : ns.length < k) : ∃ r, spec_l2At.f k ns es a b = some r ∧ decide (r < 0) = !In ns a b := by
  have := at_l0 ns es hm a b ns.length k 0 (by omega) hk
  simpa [spec_l2At.f] using this
theorem Cd_inj {a b c d : Int} (h1 : nOk a b = true) (h2 : nOk c d = true) : 64 * a + b = 64 * c + d ↔ a = c ∧ b = d := by
  have := nOk_iff.1 h1; have := nOk_iff.1 h2; omega
theorem Eo_iff {e : S56} : Eo e = true ↔ (0 ≤ e.f0 ∧ e.f0 ≤ 7) ∧ nOk e.f1.f0 e.f1.f1 = true ∧ nOk e.f2.f0 e.f2.f1 = true ∧ 64 * e.f1.f0 + e.f1.f1 < 64 * e.f2.f0 + e.f2.f1 ∧ U e.f1.f0 e.f0 = true ∧ U e.f2.f0 e.f0 = true := by
  simp [Eo, EOk, isL]
theorem less_ok {p e : S56} (hp : Eo p = true) (he : Eo e = true) : spec_l2Less.f p.f0 p.f1.f0 p.f1.f1 p.f2.f0 p.f2.f1 e.f0 e.f1.f0 e.f1.f1 e.f2.f0 e.f2.f1 = some (Lt p e) := by
  obtain ⟨_, p1, p2, _⟩ := Eo_iff.1 hp
  obtain ⟨_, e1, e2, _⟩ := Eo_iff.1 he
  unfold spec_l2Less.f Lt
  have cd : ∀ {a b : Int}, nOk a b = true → Cd a b = 64 * a + b := fun h => by unfold Cd; rw [if_pos h]
  rw [sC2 p1, sC2 p2, sC2 e1, sC2 e2, cd p1, cd p2, cd e1, cd e2]
  by_cases c : p.f0 = e.f0
  · rw [if_pos c, if_pos c]
    by_cases c2 : p.f1.f0 = e.f1.f0 ∧ p.f1.f1 = e.f1.f1
    · rw [if_pos c2, if_neg (by simp [c2.1, c2.2])]; rfl
    · rw [if_neg c2, if_pos (by simp; omega)]; rfl
  · rw [if_neg c, if_neg c]
/-- The edges' part of the document's function. -/
theorem specE_l1 (ns : List S36) (es : List S56) (hn : ns.length ≤ 2097152) (hm : es.length ≤ 2097152) (R : Option Bool) (K : Nat) (hK : ns.length < K) (hR : ∀ k, K ≤ k → spec_GraphOk.l2 k 0 ns es = R) : ∀ (d k : Nat) (i : Nat) (p : Option S56), i + d = es.length → i ≤ 56 →
    (i = 0 ∧ p = none ∨ 0 < i ∧ ∃ h : i - 1 < es.length, Eo (es[i - 1]) = true ∧ p = some (es[i - 1])) → K + d < k →
    spec_GraphOk.l1 k i ns es = if (EAsc ns (es.drop i) p && decide (es.length ≤ 56)) = true then R else some false := by
  intro d
  induction d with
  | zero =>
    intro k i p hd h40 hl hk
    obtain ⟨k, rfl⟩ : ∃ m, k = m + 1 := ⟨k - 1, by omega⟩
    simp only [spec_GraphOk.l1]
    rw [if_neg (by omega), List.drop_of_length_le (by omega), hR k (by omega), if_pos (by simp [EAsc]; omega)]
  | succ d ih =>
    intro k i p hd h40 hl hk
    obtain ⟨k, rfl⟩ : ∃ m, k = m + 1 := ⟨k - 1, by omega⟩
    have hi : i < es.length := by omega
    simp only [spec_GraphOk.l1]
    have ih' := ih k (i + 1) (some es[i]) (by omega)
    rw [if_pos (by omega), if_pos (by omega), rdE_at hi, List.drop_eq_getElem_cons hi]
    simp only [spec_EdgeOk.f, Option.bind_some, EAsc]
    have eEo : EOk (es[i]).f0 (es[i]).f1.f0 (es[i]).f1.f1 (es[i]).f2.f0 (es[i]).f2.f1 = Eo es[i] := rfl
    rw [eEo]
    by_cases c : Eo es[i] = true
    · obtain ⟨r1, a1, b1⟩ := at_ok ns es hn (es[i]).f1.f0 (es[i]).f1.f1 k (by omega)
      obtain ⟨r2, a2, b2⟩ := at_ok ns es hn (es[i]).f2.f0 (es[i]).f2.f1 k (by omega)
      rw [if_pos c]
      simp only [a1, a2, Option.bind_some]
      have fin : (if r1 < 0 then some false else if r2 < 0 then some false else if (i : Int) ≥ 56 then some false else spec_GraphOk.l1 k (wrap64 ((i : Int) + 1)) ns es) =
          if ((In ns (es[i]).f1.f0 (es[i]).f1.f1 && (In ns (es[i]).f2.f0 (es[i]).f2.f1 && EAsc ns (es.drop (i + 1)) (some es[i]))) && decide (es.length ≤ 56)) = true then R else some false := by
        by_cases q1 : r1 < 0
        · rw [if_pos q1]
          have : In ns (es[i]).f1.f0 (es[i]).f1.f1 = false := by rw [decide_eq_true q1] at b1; simpa using b1.symm
          simp [this]
        · rw [if_neg q1]
          have t1 : In ns (es[i]).f1.f0 (es[i]).f1.f1 = true := by rw [decide_eq_false q1] at b1; simpa using b1.symm
          by_cases q2 : r2 < 0
          · rw [if_pos q2]
            have : In ns (es[i]).f2.f0 (es[i]).f2.f1 = false := by rw [decide_eq_true q2] at b2; simpa using b2.symm
            simp [this]
          · rw [if_neg q2]
            have t2 : In ns (es[i]).f2.f0 (es[i]).f2.f1 = true := by rw [decide_eq_false q2] at b2; simpa using b2.symm
            simp only [t1, t2, Bool.true_and]
            by_cases c4 : (i : Int) ≥ 56
            · rw [if_pos c4]; simp only [show ¬ es.length ≤ 56 by omega, decide_false, Bool.and_false, Bool.false_eq_true, if_false]
            · rw [if_neg c4, w64 (x := (i : Int) + 1) (by omega), show (i : Int) + 1 = ((i + 1 : Nat) : Int) by omega]
              exact ih' (by omega) (.inr ⟨by omega, by simpa using hi, by simpa using c, by simp⟩) (by omega)
      simp only [c, Bool.true_and]
      rcases hl with ⟨h0, rfl⟩ | ⟨h0, h1, h2, rfl⟩
      · rw [if_neg (by omega), fin]; simp only [Bool.true_and]
      · rw [if_pos (by omega), w64 (x := (i : Int) - 1) (by omega), if_pos (by omega), if_pos (by omega), show (i : Int) - 1 = ((i - 1 : Nat) : Int) by omega, rdE_at h1, less_ok h2 c]
        simp only [Option.bind_some]
        by_cases c3 : Lt es[i - 1] es[i] = true
        · rw [if_pos c3, fin]; simp only [c3, Bool.true_and]
        · rw [if_neg c3]; simp only [Bool.not_eq_true] at c3; simp only [c3, Bool.false_and, Bool.false_eq_true, if_false]
    · rw [if_neg c]
      simp only [Bool.not_eq_true] at c
      simp only [c, Bool.false_and, Bool.false_eq_true, if_false]
theorem cN_cons (a : Int) (x : S36) (xs : List S36) : cN a (x :: xs) = cN a xs + if x.f0 = a then 1 else 0 := by
  by_cases c : x.f0 = a
  · simp [cN, List.filter_cons, c]
  · simp [cN, List.filter_cons, c]
theorem cE_cons (a : Int) (x : S56) (xs : List S56) : cE a (x :: xs) = cE a xs + if x.f0 = a then 1 else 0 := by
  by_cases c : x.f0 = a
  · simp [cE, List.filter_cons, c]
  · simp [cE, List.filter_cons, c]
theorem cntN_l0 (ns : List S36) (es : List S56) (hm : ns.length ≤ 2097152) (a : Int) : ∀ (d k : Nat) (n i : Nat), i + d = ns.length → n ≤ i → d < k → spec_l2Nodes.l0 k a n i ns es = some ((n + cN a (ns.drop i) : Nat) : Int) := by
  intro d
  induction d with
  | zero =>
    intro k n i hd hn hk
    obtain ⟨k, rfl⟩ : ∃ m, k = m + 1 := ⟨k - 1, by omega⟩
    simp only [spec_l2Nodes.l0]
    rw [if_neg (by omega), List.drop_of_length_le (by omega)]; simp [cN]
  | succ d ih =>
    intro k n i hd hn hk
    obtain ⟨k, rfl⟩ : ∃ m, k = m + 1 := ⟨k - 1, by omega⟩
    have hi : i < ns.length := by omega
    simp only [spec_l2Nodes.l0]
    rw [if_pos (by omega), if_pos (by omega), rdT_at hi, List.drop_eq_getElem_cons hi, cN_cons, w64 (x := (i : Int) + 1) (by omega), w64 (x := (n : Int) + 1) (by omega), show (i : Int) + 1 = ((i + 1 : Nat) : Int) by omega, show (n : Int) + 1 = ((n + 1 : Nat) : Int) by omega]
    by_cases c : (ns[i]).f0 = a
    · rw [if_pos c, if_pos c, ih k (n + 1) (i + 1) (by omega) (by omega) (by omega)]; congr 2; omega
    · rw [if_neg c, if_neg c, ih k n (i + 1) (by omega) (by omega) (by omega)]; congr 2
theorem cntE_l0 (ns : List S36) (es : List S56) (hm : es.length ≤ 2097152) (a : Int) : ∀ (d k : Nat) (n i : Nat), i + d = es.length → n ≤ i → d < k → spec_l2Edges.l0 k a n i ns es = some ((n + cE a (es.drop i) : Nat) : Int) := by
  intro d
  induction d with
  | zero =>
    intro k n i hd hn hk
    obtain ⟨k, rfl⟩ : ∃ m, k = m + 1 := ⟨k - 1, by omega⟩
    simp only [spec_l2Edges.l0]
    rw [if_neg (by omega), List.drop_of_length_le (by omega)]; simp [cE]
  | succ d ih =>
    intro k n i hd hn hk
    obtain ⟨k, rfl⟩ : ∃ m, k = m + 1 := ⟨k - 1, by omega⟩
    have hi : i < es.length := by omega
    simp only [spec_l2Edges.l0]
    rw [if_pos (by omega), if_pos (by omega), rdE_at hi, List.drop_eq_getElem_cons hi, cE_cons, w64 (x := (i : Int) + 1) (by omega), w64 (x := (n : Int) + 1) (by omega), show (i : Int) + 1 = ((i + 1 : Nat) : Int) by omega, show (n : Int) + 1 = ((n + 1 : Nat) : Int) by omega]
    by_cases c : (es[i]).f0 = a
    · rw [if_pos c, if_pos c, ih k (n + 1) (i + 1) (by omega) (by omega) (by omega)]; congr 2; omega
    · rw [if_neg c, if_neg c, ih k n (i + 1) (by omega) (by omega) (by omega)]; congr 2
/-- No label has too many. -/
def Few (ns : List S36) (es : List S56) : Bool := (List.range 8).all fun a => decide (cN a ns ≤ 5) && decide (cE a es ≤ 7)
theorem specC_l2 (ns : List S36) (es : List S56) (hn : ns.length ≤ 2097152) (hm : es.length ≤ 2097152) : ∀ (d k : Nat) (a : Nat), a + d = 8 → ns.length + es.length + d < k →
    spec_GraphOk.l2 k a ns es = some ((List.range d).all fun j => decide (cN ((a + j : Nat) : Int) ns ≤ 5) && decide (cE ((a + j : Nat) : Int) es ≤ 7)) := by
  intro d
  induction d with
  | zero =>
    intro k a hd hk
    obtain ⟨k, rfl⟩ : ∃ m, k = m + 1 := ⟨k - 1, by omega⟩
    simp only [spec_GraphOk.l2]
    rw [if_neg (by omega)]; rfl
  | succ d ih =>
    intro k a hd hk
    obtain ⟨k, rfl⟩ : ∃ m, k = m + 1 := ⟨k - 1, by omega⟩
    simp only [spec_GraphOk.l2]
    have n0 : spec_l2Nodes.f k ns es a = some ((cN a ns : Nat) : Int) := by
      have := cntN_l0 ns es hn a ns.length k 0 0 (by omega) (by omega) (by omega)
      simpa [spec_l2Nodes.f] using this
    have e0 : spec_l2Edges.f k ns es a = some ((cE a es : Nat) : Int) := by
      have := cntE_l0 ns es hm a es.length k 0 0 (by omega) (by omega) (by omega)
      simpa [spec_l2Edges.f] using this
    rw [if_pos (by omega), n0, e0, List.range_succ_eq_map, List.all_cons, List.all_map]
    simp only [Option.bind_some, Nat.add_zero]
    have r := ih k (a + 1) (by omega) (by omega)
    rw [w64 (x := (a : Int) + 1) (by omega), show (a : Int) + 1 = ((a + 1 : Nat) : Int) by omega, r]
    have f : ((fun j : Nat => decide (cN ((a + j : Nat) : Int) ns ≤ 5) && decide (cE ((a + j : Nat) : Int) es ≤ 7)) ∘ Nat.succ) = fun j : Nat => decide (cN ((a + 1 + j : Nat) : Int) ns ≤ 5) && decide (cE ((a + 1 + j : Nat) : Int) es ≤ 7) := by
      funext j; simp only [Function.comp_def, show a + Nat.succ j = a + 1 + j by omega]
    rw [f]
    by_cases c1 : (cN a ns : Int) > 5
    · rw [if_pos c1]; simp only [show ¬ cN a ns ≤ 5 by omega, decide_false, Bool.false_and]
    · rw [if_neg c1]
      by_cases c2 : (cE a es : Int) > 7
      · rw [if_pos c2]; simp only [show ¬ cE a es ≤ 7 by omega, decide_false, Bool.and_false, Bool.false_and]
      · rw [if_neg c2]; simp only [show cN a ns ≤ 5 by omega, show cE a es ≤ 7 by omega, decide_true, Bool.true_and]
/-- A graph is right. -/
def GOk (ns : List S36) (es : List S56) : Bool := Asc ns (-1) && (EAsc ns es none && Few ns es)
theorem Few_len {ns : List S36} {es : List S56} (h : Few ns es = true) (h1 : Asc ns (-1) = true) : ns.length ≤ 40 := by
  have hl := len_sum ns (fun x hx => by have := nOk_iff.1 (Asc_ok ns (-1) (by omega) h1 x hx).1; omega)
  have q : ∀ a : Nat, a < 8 → cN a ns ≤ 5 := fun a ha => by
    have := List.all_eq_true.1 h a (List.mem_range.2 ha)
    simp at this; exact this.1
  have q0 := q 0 (by omega); have q1 := q 1 (by omega); have q2 := q 2 (by omega); have q3 := q 3 (by omega)
  have q4 := q 4 (by omega); have q5 := q 5 (by omega); have q6 := q 6 (by omega); have q7 := q 7 (by omega)
  simp at q0 q1 q2 q3 q4 q5 q6 q7
  omega
theorem EAsc_ok (ns : List S36) : ∀ (es : List S56) (p : Option S56), EAsc ns es p = true → ∀ e ∈ es, Eo e = true
  | [], _, _, x, hx => by cases hx
  | y :: es, p, h, x, hx => by
    simp only [EAsc, Bool.and_eq_true] at h
    rcases List.mem_cons.1 hx with rfl | hx
    · exact h.1
    · exact EAsc_ok ns es _ h.2.2.2.2 x hx
theorem Few_lenE {ns : List S36} {es : List S56} (h : Few ns es = true) (h1 : EAsc ns es none = true) : es.length ≤ 56 := by
  have hl := len_sumE es (fun x hx => (Eo_iff.1 (EAsc_ok ns es none h1 x hx)).1)
  have q : ∀ a : Nat, a < 8 → cE a es ≤ 7 := fun a ha => by
    have := List.all_eq_true.1 h a (List.mem_range.2 ha)
    simp at this; exact this.2
  have q0 := q 0 (by omega); have q1 := q 1 (by omega); have q2 := q 2 (by omega); have q3 := q 3 (by omega)
  have q4 := q 4 (by omega); have q5 := q 5 (by omega); have q6 := q 6 (by omega); have q7 := q 7 (by omega)
  simp at q0 q1 q2 q3 q4 q5 q6 q7
  omega
theorem sGraphOk_ok (ns : List S36) (es : List S56) (hn : ns.length ≤ 2097152) (hm : es.length ≤ 2097152) (k : Nat) (hk : 2 * ns.length + 2 * es.length + 100 < k) : spec_GraphOk.f k ns es = some (GOk ns es) := by
  have h2 : ∀ q, ns.length + es.length + 10 ≤ q → spec_GraphOk.l2 q 0 ns es = some (Few ns es) := by
    intro q hq
    have := specC_l2 ns es hn hm 8 q 0 (by omega) (by omega)
    simpa [Few] using this
  have h1 : ∀ q, ns.length + 2 * es.length + 20 ≤ q → spec_GraphOk.l1 q 0 ns es = some (EAsc ns es none && (decide (es.length ≤ 56) && Few ns es)) := by
    intro q hq
    have := specE_l1 ns es hn hm _ (ns.length + es.length + 10) (by omega) h2 es.length q 0 none (by omega) (by omega) (.inl ⟨rfl, rfl⟩) (by omega)
    rw [List.drop_zero] at this
    rw [show ((0 : Nat) : Int) = 0 from rfl] at this
    rw [this]
    cases EAsc ns es none <;> cases decide (es.length ≤ 56) <;> rfl
  have h0 := specN_l0 ns es hn _ (ns.length + 2 * es.length + 20) h1 ns.length k 0 (-1) (by omega) (by omega) (.inl ⟨rfl, rfl⟩) (by omega)
  rw [List.drop_zero] at h0
  rw [show ((0 : Nat) : Int) = 0 from rfl] at h0
  unfold spec_GraphOk.f GOk
  rw [h0]
  cases c1 : Asc ns (-1)
  · rfl
  · cases c2 : EAsc ns es none
    · simp
    · cases c3 : Few ns es
      · simp
      · have l1 := Few_len c3 c1
        have l2 := Few_lenE c3 c2
        simp [l1, l2]
/-- Edges as the program goes through them. -/
def ER (ns : List S36) : List S56 → Option S56 → List Int → Bool
  | [], _, _ => true
  | e :: es, p, m => if Eo e = true then (if rd m e.f0 = 7 then false else if (match p with | some p => Lt p e | none => true) = true then (if In ns e.f1.f0 e.f1.f1 = true then (if In ns e.f2.f0 e.f2.f1 = true then ER ns es (some e) (m.set e.f0.toNat (wrap64 (rd m e.f0 + 1))) else false) else false) else false) else false
theorem ER_eq (ns : List S36) : ∀ (es : List S56) (p : Option S56) (m : List Int), m.length = 8 → (∀ a : Nat, a < 8 → 0 ≤ rd m a ∧ rd m a ≤ 7) →
    ER ns es p m = (EAsc ns es p && (List.range 8).all fun a => decide (rd m a + cE a es ≤ 7))
  | [], p, m, hl, hm => by
    have : ((List.range 8).all fun a => decide (rd m a + cE a ([] : List S56) ≤ 7)) = true := by
      rw [List.all_eq_true]
      intro a ha
      have := hm a (List.mem_range.1 ha)
      simp [cE]; omega
    rw [this]; rfl
  | x :: xs, p, m, hl, hm => by
    simp only [ER, EAsc]
    by_cases c : Eo x = true
    · rw [if_pos c]
      obtain ⟨⟨e2, e3⟩, _⟩ := Eo_iff.1 c
      obtain ⟨j, hj⟩ := Int.eq_ofNat_of_zero_le e2
      have hj8 : j < 8 := by omega
      have hmj := hm j hj8
      by_cases c2 : rd m x.f0 = 7
      · rw [if_pos c2]
        have : ((List.range 8).all fun a => decide (rd m a + cE a (x :: xs) ≤ 7)) = false := by
          rw [List.all_eq_false]
          refine ⟨j, List.mem_range.2 hj8, ?_⟩
          have : 1 ≤ cE (j : Int) (x :: xs) := by simp [cE, hj]
          rw [hj] at c2
          simp; omega
        rw [this, Bool.and_false]
      · rw [if_neg c2, w64 (x := rd m x.f0 + 1) (by rw [hj]; omega)]
        have hr : ∀ a : Nat, a < 8 → rd (m.set x.f0.toNat (rd m x.f0 + 1)) a = if a = j then rd m a + 1 else rd m a := by
          intro a ha
          rw [hj, Int.toNat_natCast]
          unfold rd
          simp only [Int.toNat_natCast, List.getD_eq_getElem?_getD, List.getElem?_set]
          by_cases q : j = a
          · subst q; simp [hl, hj8]
          · rw [if_neg q, if_neg (fun h => q h.symm)]
        have c2' : rd m (j : Int) ≠ 7 := by rw [← hj]; exact c2
        rw [ER_eq ns xs (some x) _ (by simpa using hl) (fun a ha => by
          rw [hr a ha]; have := hm a ha; split
          · rename_i q; subst q; omega
          · omega)]
        have hc : ((List.range 8).all fun a => decide (rd (m.set x.f0.toNat (rd m x.f0 + 1)) a + cE a xs ≤ 7)) = (List.range 8).all fun a => decide (rd m a + cE a (x :: xs) ≤ 7) := by
          apply Bool.eq_iff_iff.2
          rw [List.all_eq_true, List.all_eq_true]
          have hc : ∀ a : Nat, a < 8 → (rd (m.set x.f0.toNat (rd m x.f0 + 1)) a + cE a xs = rd m a + cE a (x :: xs)) := by
            intro a ha
            rw [hr a ha, cE_cons]
            by_cases q : a = j
            · subst q; rw [if_pos rfl, if_pos hj]; omega
            · rw [if_neg q, if_neg (by rw [hj]; omega)]; omega
          constructor
          · intro h a ha; have := h a ha; have e := hc a (List.mem_range.1 ha); simp at this ⊢; omega
          · intro h a ha; have := h a ha; have e := hc a (List.mem_range.1 ha); simp at this ⊢; omega
        rw [hc]
        simp only [c, Bool.true_and]
        cases (match p with | some p => Lt p x | none => true) <;> cases In ns x.f1.f0 x.f1.f1 <;> cases In ns x.f2.f0 x.f2.f1 <;> simp
    · rw [if_neg c]
      simp only [Bool.not_eq_true] at c
      simp only [c, Bool.false_and]
theorem Cmp_ok (a b : Int) : cmp_Compare_int.f a b = some (if a < b then -1 else if a > b then 1 else 0) := by
  unfold cmp_Compare_int.f cmp_isNaN_int.f
  simp only [Option.bind_some, bne_self_eq_false, Bool.false_eq_true, if_false]
  split
  · rfl
  · split <;> rfl
theorem Or_ok (x y z : Int) (k : Nat) (hk : 5 ≤ k) : cmp_Or_int.f k [x, y, z] = some (if x ≠ 0 then x else if y ≠ 0 then y else z) := by
  obtain ⟨k, rfl⟩ : ∃ m, k = m + 5 := ⟨k - 5, by omega⟩
  have w1 : wrap64 (0 + 1) = 1 := by decide +kernel
  have w2 : wrap64 (1 + 1) = 2 := by decide +kernel
  have w3 : wrap64 (2 + 1) = 3 := by decide +kernel
  unfold cmp_Or_int.f
  simp only [cmp_Or_int.l0, List.length_cons, List.length_nil]
  simp only [rd, w1, w2, w3]
  by_cases c1 : x = 0
  · by_cases c2 : y = 0
    · by_cases c3 : z = 0
      · simp [c1, c2, c3, w1, w2, w3]
      · simp [c1, c2, c3, w1, w2, w3]
    · simp [c1, c2, w1, w2, w3]
  · simp [c1, w1]
theorem order_ok {p e : S56} (hp : Eo p = true) (he : Eo e = true) (k : Nat) (hk : 5 ≤ k) : ∃ t, impl_edgeOrder.f k p.f0 p.f1.f0 p.f1.f1 p.f2.f0 p.f2.f1 e.f0 e.f1.f0 e.f1.f1 e.f2.f0 e.f2.f1 = some t ∧ decide (t ≥ 0) = !Lt p e := by
  obtain ⟨_, p1, p2, _⟩ := Eo_iff.1 hp
  obtain ⟨_, e1, e2, _⟩ := Eo_iff.1 he
  have cd : ∀ {a b : Int}, nOk a b = true → Cd a b = 64 * a + b := fun h => by unfold Cd; rw [if_pos h]
  have inj := Cd_inj p1 e1
  unfold impl_edgeOrder.f
  simp only [Cmp_ok, iO, Option.bind_some, Or_ok _ _ _ k hk]
  refine ⟨_, rfl, ?_⟩
  unfold Lt oN
  rw [cd p1, cd p2, cd e1, cd e2]
  by_cases c : p.f0 = e.f0
  · rw [if_pos c]
    rw [c]
    simp only [Int.lt_irrefl, if_false, gt_iff_lt, ne_eq, not_true_eq_false]
    by_cases c2 : p.f1.f0 = e.f1.f0 ∧ p.f1.f1 = e.f1.f1
    · rw [if_pos c2]
      have := inj.2 c2
      rw [this]
      simp only [Int.lt_irrefl, if_false, not_true_eq_false]
      by_cases q : 64 * p.f2.f0 + p.f2.f1 < 64 * e.f2.f0 + e.f2.f1
      · simp [q]
      · by_cases q2 : 64 * e.f2.f0 + e.f2.f1 < 64 * p.f2.f0 + p.f2.f1
        · simp [q, q2]
        · simp [q, q2]
    · rw [if_neg c2]
      have hne : 64 * p.f1.f0 + p.f1.f1 ≠ 64 * e.f1.f0 + e.f1.f1 := fun h => c2 (inj.1 h)
      by_cases q : 64 * p.f1.f0 + p.f1.f1 < 64 * e.f1.f0 + e.f1.f1
      · simp [q]
      · have q2 : 64 * e.f1.f0 + e.f1.f1 < 64 * p.f1.f0 + p.f1.f1 := by omega
        simp [q, q2]
  · rw [if_neg c]
    by_cases q : p.f0 < e.f0
    · simp [q]
    · have q2 : e.f0 < p.f0 := by omega
      simp [q, q2]
theorem oN_neg {a b c d : Int} : oN a b c d < 0 ↔ Cd a b < Cd c d := by
  unfold oN; split
  · simp; assumption
  · split <;> simp <;> omega
theorem oN_zero {a b c d : Int} : (oN a b c d == 0) = true ↔ Cd a b = Cd c d := by
  unfold oN; split
  · simp; omega
  · split <;> simp <;> omega
theorem Asc_gt : ∀ (xs : List S36) (last : Int), Asc xs last = true → ∀ x ∈ xs, last < Cd x.f0 x.f1
  | [], _, _, x, hx => by cases hx
  | y :: xs, last, h, x, hx => by
    simp only [Asc, Bool.and_eq_true, decide_eq_true_eq] at h
    rcases List.mem_cons.1 hx with rfl | hx
    · exact h.1
    · have := Asc_gt xs _ h.2 x hx
      omega
theorem Asc_mono : ∀ (xs : List S36) (last : Int), Asc xs last = true → ∀ (i j : Nat) (hi : i < j) (hj : j < xs.length), Cd (xs[i]'(by omega)).f0 (xs[i]'(by omega)).f1 < Cd (xs[j]).f0 (xs[j]).f1
  | [], _, _, i, j, hi, hj => by simp at hj
  | x :: xs, last, h, i, j, hi, hj => by
    simp only [Asc, Bool.and_eq_true, decide_eq_true_eq] at h
    cases j with
    | zero => omega
    | succ j =>
      cases i with
      | zero =>
        simp only [List.getElem_cons_zero, List.getElem_cons_succ]
        exact Asc_gt xs _ h.2 _ (List.getElem_mem _)
      | succ i =>
        simp only [List.getElem_cons_succ]
        exact Asc_mono xs _ h.2 i j (by omega) (by simpa using hj)
theorem bsf_l0 (xs : List S36) (a b : Int) (hA : Asc xs (-1) = true) (ht : nOk a b = true) : ∀ (d k : Nat) (i j : Nat), j - i ≤ d → i ≤ j → j ≤ xs.length → (∀ q (h : q < xs.length), q < i → Cd (xs[q]).f0 (xs[q]).f1 < Cd a b) → (∀ q (h : q < xs.length), j ≤ q → Cd a b ≤ Cd (xs[q]).f0 (xs[q]).f1) → d < k →
    ∃ p, impl_bsf.l0 k xs a b i j = some (p, In xs a b) := by
  intro d
  induction d with
  | zero =>
    intro k i j hd hij hj h1 h2 hk
    obtain ⟨k, rfl⟩ : ∃ m, k = m + 1 := ⟨k - 1, by omega⟩
    obtain rfl : i = j := by omega
    simp only [impl_bsf.l0]
    rw [if_neg (by omega)]
    refine ⟨i, ?_⟩
    congr 2
    apply Bool.eq_iff_iff.2
    constructor
    · intro h
      by_cases c : (i : Int) < (xs.length : Int)
      · rw [if_pos c, rdT_at (by omega)] at h
        have e := oN_zero.1 h
        have o := Asc_ok xs (-1) (by omega) hA _ (List.getElem_mem (show i < xs.length by omega))
        have := Cd_inj o.1 ht
        unfold Cd at e
        rw [if_pos o.1, if_pos ht] at e
        have e2 := this.1 e
        unfold In
        rw [List.any_eq_true]
        exact ⟨_, List.getElem_mem (show i < xs.length by omega), by simp [e2.1, e2.2]⟩
      · rw [if_neg c] at h; cases h
    · intro h
      unfold In at h
      rw [List.any_eq_true] at h
      obtain ⟨x, hx, hxe⟩ := h
      obtain ⟨q, hq, rfl⟩ := List.mem_iff_getElem.1 hx
      simp at hxe
      have e : Cd (xs[q]).f0 (xs[q]).f1 = Cd a b := by rw [hxe.1, hxe.2]
      have hqi : i ≤ q := by
        rcases Nat.lt_or_ge q i with c | c
        · have := h1 q hq c; omega
        · exact c
      have : q = i := by
        rcases Nat.lt_or_ge i q with c | c
        · have := Asc_mono xs (-1) hA i q c hq
          have := h2 i (by omega) (Nat.le_refl _)
          omega
        · omega
      subst this
      rw [if_pos (by omega), rdT_at hq]
      exact oN_zero.2 e
  | succ d ih =>
    intro k i j hd hij hj h1 h2 hk
    by_cases c : i < j
    · obtain ⟨k, rfl⟩ : ∃ m, k = m + 1 := ⟨k - 1, by omega⟩
      simp only [impl_bsf.l0]
      have hh : ((i : Int) + (j : Int)) / 2 = (((i + j) / 2 : Nat) : Int) := by omega
      have hq : (i + j) / 2 < xs.length := by omega
      rw [if_pos (by omega), hh, rdT_at hq]
      by_cases c2 : oN (xs[(i + j) / 2]).f0 (xs[(i + j) / 2]).f1 a b < 0
      · rw [if_pos c2, show (((i + j) / 2 : Nat) : Int) + 1 = (((i + j) / 2 + 1 : Nat) : Int) by omega]
        have l := oN_neg.1 c2
        refine ih k _ j (by omega) (by omega) hj (fun q h hqi => ?_) h2 (by omega)
        rcases Nat.lt_or_ge q ((i + j) / 2) with c3 | c3
        · have := Asc_mono xs (-1) hA q _ c3 hq; omega
        · obtain rfl : q = (i + j) / 2 := by omega
          exact l
      · rw [if_neg c2]
        have l : Cd a b ≤ Cd (xs[(i + j) / 2]).f0 (xs[(i + j) / 2]).f1 := by
          rcases Int.lt_or_le (Cd (xs[(i + j) / 2]).f0 (xs[(i + j) / 2]).f1) (Cd a b) with q | q
          · exact absurd (oN_neg.2 q) c2
          · exact q
        refine ih k i _ (by omega) (by omega) (by omega) h1 (fun q h hqi => ?_) (by omega)
        rcases Nat.lt_or_ge ((i + j) / 2) q with c3 | c3
        · have := Asc_mono xs (-1) hA _ q c3 h; omega
        · obtain rfl : q = (i + j) / 2 := by omega
          exact l
    · exact ih k i j (by omega) hij hj h1 h2 (by omega)
theorem there_ok (xs : List S36) (a b : Int) (hA : Asc xs (-1) = true) (ht : nOk a b = true) (k : Nat) (hk : xs.length < k) : impl_nodeThere.f k xs a b = some (In xs a b) := by
  obtain ⟨p, hp⟩ := bsf_l0 xs a b hA ht xs.length k 0 xs.length (by omega) (by omega) (by omega) (fun q h hq => by omega) (fun q h hq => by omega) hk
  unfold impl_nodeThere.f impl_bsf.f
  rw [show ((0 : Nat) : Int) = 0 from rfl] at hp
  rw [hp]; rfl
/-- The edges' part of the program's function, where the nodes ascend. -/
theorem edgesOk_l0 (es : List S56) (ns : List S36) (hm : es.length ≤ 2097152) (hA : Asc ns (-1) = true) : ∀ (d k : Nat) (i : Nat) (p : Option S56) (m : List Int), i + d = es.length →
    (i = 0 ∧ p = none ∨ 0 < i ∧ ∃ h : i - 1 < es.length, Eo (es[i - 1]) = true ∧ p = some (es[i - 1])) → ns.length + d + 10 < k → impl_edgesOk.l0 k es ns m i = some (ER ns (es.drop i) p m) := by
  intro d
  induction d with
  | zero =>
    intro k i p m hd hl hk
    obtain ⟨k, rfl⟩ : ∃ m, k = m + 1 := ⟨k - 1, by omega⟩
    simp only [impl_edgesOk.l0]
    rw [if_neg (by omega), List.drop_of_length_le (by omega)]; rfl
  | succ d ih =>
    intro k i p m hd hl hk
    obtain ⟨k, rfl⟩ : ∃ m, k = m + 1 := ⟨k - 1, by omega⟩
    have hi : i < es.length := by omega
    simp only [impl_edgesOk.l0]
    rw [if_pos (by omega), if_pos (by omega), rdE_at hi, List.drop_eq_getElem_cons hi]
    simp only [ER]
    have eEo : EOk (es[i]).f0 (es[i]).f1.f0 (es[i]).f1.f1 (es[i]).f2.f0 (es[i]).f2.f1 = Eo es[i] := rfl
    rw [eEo]
    by_cases c : Eo es[i] = true
    · rw [if_pos c, if_pos c]
      obtain ⟨_, c1, c2, _⟩ := Eo_iff.1 c
      by_cases c7 : rd m (es[i]).f0 = 7
      · rw [if_pos c7, if_pos c7]
      · rw [if_neg c7, if_neg c7]
        simp only [there_ok ns _ _ hA c1 k (by omega), there_ok ns _ _ hA c2 k (by omega), Option.bind_some]
        have ih' := ih k (i + 1) (some es[i]) (m.set ((es[i]).f0).toNat (wrap64 (rd m (es[i]).f0 + 1))) (by omega) (.inr ⟨by omega, by simpa using hi, by simpa using c, by simp⟩) (by omega)
        rw [show ((i + 1 : Nat) : Int) = (i : Int) + 1 by omega] at ih'
        rw [w64 (x := (i : Int) + 1) (by omega), ih']
        have fin : (if In ns (es[i]).f1.f0 (es[i]).f1.f1 = true then (if In ns (es[i]).f2.f0 (es[i]).f2.f1 = true then some (ER ns (es.drop (i + 1)) (some es[i]) (m.set ((es[i]).f0).toNat (wrap64 (rd m (es[i]).f0 + 1)))) else some false) else some false) =
            some (if In ns (es[i]).f1.f0 (es[i]).f1.f1 = true then (if In ns (es[i]).f2.f0 (es[i]).f2.f1 = true then ER ns (es.drop (i + 1)) (some es[i]) (m.set ((es[i]).f0).toNat (wrap64 (rd m (es[i]).f0 + 1))) else false) else false) := by
          split
          · split <;> rfl
          · rfl
        rcases hl with ⟨h0, rfl⟩ | ⟨h0, h1, h2, rfl⟩
        · rw [if_neg (by omega), fin]; rfl
        · rw [if_pos (by omega), w64 (x := (i : Int) - 1) (by omega), if_pos (by omega), if_pos (by omega), show (i : Int) - 1 = ((i - 1 : Nat) : Int) by omega, rdE_at h1]
          obtain ⟨t, ht, hts⟩ := order_ok h2 c k (by omega)
          rw [ht]
          simp only [Option.bind_some]
          by_cases c3 : Lt es[i - 1] es[i] = true
          · rw [if_pos c3, if_neg (fun h => by rw [decide_eq_true h, c3] at hts; cases hts), fin]
          · rw [if_neg c3]
            rw [if_pos (by
              simp only [Bool.not_eq_true] at c3
              rw [c3] at hts
              simpa using hts)]
    · rw [if_neg c, if_neg c]
theorem iGraphOk_ok (ns : List S36) (es : List S56) (hn : ns.length ≤ 2097152) (hm : es.length ≤ 2097152) (k : Nat) (hk : 2 * ns.length + 2 * es.length + 100 < k) : impl_GraphOk.f k ns es = some (GOk ns es) := by
  have z : ∀ a : Nat, a < 8 → rd ([0, 0, 0, 0, 0, 0, 0, 0] : List Int) a = 0 := by
    intro a ha
    unfold rd
    rw [Int.toNat_natCast]
    rcases (show a = 0 ∨ a = 1 ∨ a = 2 ∨ a = 3 ∨ a = 4 ∨ a = 5 ∨ a = 6 ∨ a = 7 by omega) with rfl | rfl | rfl | rfl | rfl | rfl | rfl | rfl <;> rfl
  have h0 := nodesOk_l0 ns hn ns.length k 0 (-1) [0, 0, 0, 0, 0, 0, 0, 0] (by omega) (by omega)
  rw [List.drop_zero, show ((0 : Nat) : Int) = 0 from rfl, NR_eq ns (-1) _ (by omega) (by rfl) (fun a ha => by rw [z a ha]; omega)] at h0
  unfold impl_GraphOk.f impl_nodesOk.f impl_edgesOk.f GOk
  rw [h0]
  simp only [Option.bind_some]
  cases c1 : Asc ns (-1)
  · rfl
  · have h1 := edgesOk_l0 es ns hm c1 es.length k 0 none [0, 0, 0, 0, 0, 0, 0, 0] (by omega) (.inl ⟨rfl, rfl⟩) (by omega)
    rw [List.drop_zero, show ((0 : Nat) : Int) = 0 from rfl, ER_eq ns es none _ (by rfl) (fun a ha => by rw [z a ha]; omega)] at h1
    rw [h1]
    have q1 : ((List.range 8).all fun a => decide (rd ([0, 0, 0, 0, 0, 0, 0, 0] : List Int) a + cN a ns ≤ 5)) = (List.range 8).all fun a => decide (cN a ns ≤ 5) := by
      apply Bool.eq_iff_iff.2
      rw [List.all_eq_true, List.all_eq_true]
      constructor <;> intro h a ha <;> have := h a ha <;> have e := z a (List.mem_range.1 ha) <;> simp [e] at this ⊢ <;> omega
    have q2 : ((List.range 8).all fun a => decide (rd ([0, 0, 0, 0, 0, 0, 0, 0] : List Int) a + cE a es ≤ 7)) = (List.range 8).all fun a => decide (cE a es ≤ 7) := by
      apply Bool.eq_iff_iff.2
      rw [List.all_eq_true, List.all_eq_true]
      constructor <;> intro h a ha <;> have := h a ha <;> have e := z a (List.mem_range.1 ha) <;> simp [e] at this ⊢ <;> omega
    have q3 : Few ns es = (((List.range 8).all fun a => decide (cN a ns ≤ 5)) && ((List.range 8).all fun a => decide (cE a es ≤ 7))) := by
      unfold Few
      apply Bool.eq_iff_iff.2
      simp only [Bool.and_eq_true, List.all_eq_true]
      exact ⟨fun h => ⟨fun a ha => (h a ha).1, fun a ha => (h a ha).2⟩, fun h a ha => ⟨h.1 a ha, h.2 a ha⟩⟩
    rw [q1, q2, q3]
    cases ((List.range 8).all fun a => decide (cN a ns ≤ 5)) <;> cases ((List.range 8).all fun a => decide (cE a es ≤ 7)) <;> cases EAsc ns es none <;> rfl

/-- A node's number. -/
def cd (x : S36) : Int := Cd x.f0 x.f1
/-- Nodes ascend. -/
def SA (xs : List S36) : Prop := xs.Pairwise fun x y => cd x < cd y
theorem SA_uniq : ∀ xs ys : List S36, SA xs → SA ys → (∀ z, z ∈ xs ↔ z ∈ ys) → xs = ys
  | [], [], _, _, _ => rfl
  | [], y :: ys, _, _, h => by have := (h y).2 List.mem_cons_self; simp at this
  | x :: xs, [], _, _, h => by have := (h x).1 List.mem_cons_self; simp at this
  | x :: xs, y :: ys, hx, hy, h => by
    obtain ⟨x1, x2⟩ := List.pairwise_cons.1 hx
    obtain ⟨y1, y2⟩ := List.pairwise_cons.1 hy
    have e : x = y := by
      rcases List.mem_cons.1 ((h x).1 List.mem_cons_self) with e | e
      · exact e
      · rcases List.mem_cons.1 ((h y).2 List.mem_cons_self) with e' | e'
        · exact e'.symm
        · have := y1 x e; have := x1 y e'; omega
    subst e
    rw [SA_uniq xs ys x2 y2 (fun z => ?_)]
    constructor
    · intro hz
      rcases List.mem_cons.1 ((h z).1 (List.mem_cons_of_mem _ hz)) with e | e
      · subst e; have := x1 z hz; omega
      · exact e
    · intro hz
      rcases List.mem_cons.1 ((h z).2 (List.mem_cons_of_mem _ hz)) with e | e
      · subst e; have := y1 z hz; omega
      · exact e
theorem cd_inj {x y : S36} (hx : nOk x.f0 x.f1 = true) (hy : nOk y.f0 y.f1 = true) (h : cd x = cd y) : x = y := by
  unfold cd Cd at h
  rw [if_pos hx, if_pos hy] at h
  obtain ⟨a, b⟩ := x
  obtain ⟨c, d⟩ := y
  have := (Cd_inj hx hy).1 h
  simp only [S36.mk.injEq]
  exact this
/-- The other end of an edge that has a node. -/
def oth (a b : Int) (e : S56) : Option S36 := if (a == e.f1.f0 && (b == e.f1.f1)) = true then some e.f2 else if (a == e.f2.f0 && (b == e.f2.f1)) = true then some e.f1 else none
def adj (es : List S56) (a b : Int) : List S36 := es.filterMap (oth a b)
/-- What is kept behind a node: each that is not the one ahead. -/
def kp : S36 → List S36 → List S36
  | _, [] => []
  | p, x :: t => if (x.f0 == p.f0 && (x.f1 == p.f1)) = true then kp x t else x :: kp x t
def cmpN : List S36 → List S36
  | [] => []
  | x :: t => x :: kp x t
theorem eqN {x p : S36} : (x.f0 == p.f0 && (x.f1 == p.f1)) = true ↔ x = p := by
  obtain ⟨a, b⟩ := x
  obtain ⟨c, d⟩ := p
  simp
theorem kp_mem : ∀ (t : List S36) (p z : S36), z ∈ p :: kp p t ↔ z ∈ p :: t
  | [], p, z => Iff.rfl
  | x :: t, p, z => by
    unfold kp
    by_cases c : (x.f0 == p.f0 && (x.f1 == p.f1)) = true
    · rw [if_pos c]
      obtain rfl := eqN.1 c
      rw [kp_mem t x z]; simp
    · rw [if_neg c, List.mem_cons, kp_mem t x z]
      simp [List.mem_cons]
theorem kp_SA : ∀ (t : List S36) (p : S36), (∀ x ∈ p :: t, nOk x.f0 x.f1 = true) → (p :: t).Pairwise (fun x y => cd x ≤ cd y) → SA (p :: kp p t)
  | [], p, _, _ => by unfold kp SA; simp
  | x :: t, p, ho, hs => by
    obtain ⟨h1, h2⟩ := List.pairwise_cons.1 hs
    have ih := kp_SA t x (fun y hy => ho y (List.mem_cons_of_mem _ hy)) h2
    unfold kp
    by_cases c : (x.f0 == p.f0 && (x.f1 == p.f1)) = true
    · rw [if_pos c]
      obtain rfl := eqN.1 c
      exact ih
    · rw [if_neg c]
      have hpx : cd p < cd x := by
        have h3 := h1 x List.mem_cons_self
        rcases Int.lt_or_eq_of_le h3 with h | h
        · exact h
        · exact absurd (eqN.2 (cd_inj (ho x (by simp)) (ho p (by simp)) h.symm)) c
      refine List.pairwise_cons.2 ⟨fun y hy => ?_, ih⟩
      have hy' := (kp_mem t x y).1 hy
      rcases List.mem_cons.1 hy' with e | e
      · subst e; exact hpx
      · have := (List.pairwise_cons.1 h2).1 y e; omega
theorem cmpN_mem (xs : List S36) (z : S36) : z ∈ cmpN xs ↔ z ∈ xs := by
  cases xs with
  | nil => exact Iff.rfl
  | cons x t => exact kp_mem t x z
theorem cmpN_SA (xs : List S36) (ho : ∀ x ∈ xs, nOk x.f0 x.f1 = true) (hs : xs.Pairwise fun x y => cd x ≤ cd y) : SA (cmpN xs) := by
  cases xs with
  | nil => exact List.Pairwise.nil
  | cons x t => exact kp_SA t x ho hs
theorem w1n (i : Nat) (h : i ≤ 1099511627776) : wrap64 ((i : Int) + 1) = ((i + 1 : Nat) : Int) := by rw [w64 (x := (i : Int) + 1) (by omega)]; omega
theorem w1m (i : Nat) (h : i ≤ 1099511627776) : wrap64 (((i + 1 : Nat) : Int) - 1) = (i : Int) := by rw [w64 (x := ((i + 1 : Nat) : Int) - 1) (by omega)]; omega
theorem cmp_l1 (m : Nat) : ∀ (d k : Nat) (xs : List S36) (w j : Nat) (hj : m + j < xs.length + 1) (_ : w ≤ m + j), xs.length ≤ 2097152 → m + j + 1 + d = xs.length + 1 → d < k → ∀ hq : m + j < xs.length,
    impl_Node_106.l1 k xs (w : Int) (m : Int) ((j + 1 : Nat) : Int) = some (xs.take w ++ kp xs[m + j] (xs.drop (m + j + 1))) := by
  intro d
  induction d with
  | zero => intro k xs w j _ _ _ hd _ hq; omega
  | succ d ih =>
    intro k xs w j hj hw hm hd hk hq
    obtain ⟨k, rfl⟩ : ∃ q, k = q + 1 := ⟨k - 1, by omega⟩
    have hdl : (xs.drop (m : Int).toNat).length = xs.length - m := by simp
    rw [impl_Node_106.l1]
    rw [hdl]
    by_cases c : m + j + 1 < xs.length
    · rw [if_pos (by omega), if_pos (by omega), w1m j (by omega), if_pos (by omega), if_pos (by omega)]
      have r1 : rd_T36 (xs.drop (m : Int).toNat) ((j + 1 : Nat) : Int) = xs[m + j + 1] := by
        rw [rdT_at (show j + 1 < (xs.drop (m : Int).toNat).length by omega)]
        simp [Nat.add_assoc]
      have r2 : rd_T36 (xs.drop (m : Int).toNat) (j : Int) = xs[m + j] := by
        rw [rdT_at (show j < (xs.drop (m : Int).toNat).length by omega)]
        simp
      rw [r1, r2, List.drop_eq_getElem_cons c]
      unfold kp
      by_cases e : (xs[m + j + 1].f0 == xs[m + j].f0 && (xs[m + j + 1].f1 == xs[m + j].f1)) = true
      · rw [if_pos e]
        rw [if_neg (by rw [Bool.and_eq_true] at e; rw [e.1, e.2]; simp)]
        rw [w1n (j + 1) (by omega)]
        exact ih k xs w (j + 1) (by omega) (by omega) hm (by omega) (by omega) c
      · rw [if_neg e]
        rw [if_pos (by rw [Bool.and_eq_true] at e; revert e; cases xs[m + j + 1].f0 == xs[m + j].f0 <;> cases xs[m + j + 1].f1 == xs[m + j].f1 <;> simp)]
        rw [if_pos (by omega), if_pos (by omega), Int.toNat_natCast, w1n w (by omega), w1n (j + 1) (by omega)]
        have hl : (xs.set w (⟨xs[m + j + 1].f0, xs[m + j + 1].f1⟩ : S36)).length = xs.length := by simp
        have := ih k (xs.set w (⟨xs[m + j + 1].f0, xs[m + j + 1].f1⟩ : S36)) (w + 1) (j + 1) (by omega) (by omega) (by omega) (by omega) (by omega) (by omega)
        rw [this]
        have e1 : (xs.set w (⟨xs[m + j + 1].f0, xs[m + j + 1].f1⟩ : S36)).take (w + 1) = xs.take w ++ [xs[m + j + 1]] := by
          rw [List.take_succ_eq_append_getElem (show w < (xs.set w _).length by rw [hl]; omega), List.take_set_of_le (Nat.le_refl _), List.getElem_set_self]
        have e2 : (xs.set w (⟨xs[m + j + 1].f0, xs[m + j + 1].f1⟩ : S36))[m + (j + 1)]'(by omega) = xs[m + j + 1] := by
          rw [List.getElem_set_ne (by omega)]; rfl
        have e3 : (xs.set w (⟨xs[m + j + 1].f0, xs[m + j + 1].f1⟩ : S36)).drop (m + (j + 1) + 1) = xs.drop (m + j + 1 + 1) := by
          rw [List.drop_set_of_lt (by omega)]; rfl
        rw [e1, e2, e3, List.append_assoc]; rfl
    · rw [if_neg (by omega), if_pos (by omega), if_pos (by omega), Int.toNat_natCast, List.drop_of_length_le (by omega)]
      simp [kp]
theorem cmp_l0 (xs : List S36) (hm : xs.length ≤ 2097152) : ∀ (d k : Nat) (i : Nat), i + 1 + d = xs.length → d + 1 < k → ∀ hq : i < xs.length,
    impl_Node_106.l0 k xs ((i + 1 : Nat) : Int) = some (xs.take (i + 1) ++ kp xs[i] (xs.drop (i + 1))) := by
  intro d
  induction d with
  | zero =>
    intro k i hd hk hq
    obtain ⟨k, rfl⟩ : ∃ q, k = q + 1 := ⟨k - 1, by omega⟩
    rw [impl_Node_106.l0]
    rw [if_neg (by omega), List.drop_of_length_le (by omega), List.take_of_length_le (by omega)]
    simp [kp]
  | succ d ih =>
    intro k i hd hk hq
    obtain ⟨k, rfl⟩ : ∃ q, k = q + 1 := ⟨k - 1, by omega⟩
    have c : i + 1 < xs.length := by omega
    rw [impl_Node_106.l0]
    rw [if_pos (by omega), if_pos (by omega), w1m i (by omega), if_pos (by omega), if_pos (by omega), rdT_at c, rdT_at hq, List.drop_eq_getElem_cons c]
    unfold kp
    by_cases e : (xs[i + 1].f0 == xs[i].f0 && (xs[i + 1].f1 == xs[i].f1)) = true
    · rw [if_pos e, if_pos e, if_pos (by omega)]
      exact cmp_l1 (i + 1) (d + 1) k xs (i + 1) 0 (by omega) (by omega) hm (by omega) (by omega) c
    · rw [if_neg e, if_neg e, w1n (i + 1) (by omega), ih k (i + 1) (by omega) (by omega) c]
      rw [List.take_succ_eq_append_getElem c, List.append_assoc]; rfl
theorem cmp_ok (xs : List S36) (hm : xs.length ≤ 2097152) (k : Nat) (hk : xs.length < k) : impl_Node_106.f k xs = some (cmpN xs) := by
  unfold impl_Node_106.f
  match xs, hm, hk with
  | [], _, _ => rfl
  | [x], _, _ => rfl
  | x :: y :: t, hm, hk =>
    rw [if_neg (by simp; omega)]
    exact cmp_l0 (x :: y :: t) hm (t.length + 1) k 0 (by simp; omega) (by simp at hk; omega) (by simp)
/-- The nodes that an edge joins to one, in order, each once. -/
def nearL (es : List S56) (a b : Int) : List S36 := cmpN (srtN (adj es a b))
theorem near_l0 (es : List S56) (hm : es.length ≤ 2097152) (a b : Int) : ∀ (d k : Nat) (i : Nat) (z : List S36), i + d = es.length → z.length ≤ i → d + es.length + 2 < k →
    impl_GraphNear.l0 k z es (es.length : Int) (i : Int) a b = some (cmpN (srtN (z ++ adj (es.drop i) a b))) := by
  intro d
  induction d with
  | zero =>
    intro k i z hd hz hk
    obtain ⟨k, rfl⟩ : ∃ q, k = q + 1 := ⟨k - 1, by omega⟩
    rw [impl_GraphNear.l0]
    rw [if_neg (by omega), List.drop_of_length_le (by omega)]
    have e : z ++ adj [] a b = z := by simp [adj]
    rw [e]
    unfold impl_Node_104.f
    rw [if_pos (by omega)]
    simp only [Option.bind_some]
    rw [cmp_ok _ (by rw [srtN_len]; omega) k (by rw [srtN_len]; omega)]
    rfl
  | succ d ih =>
    intro k i z hd hz hk
    obtain ⟨k, rfl⟩ : ∃ q, k = q + 1 := ⟨k - 1, by omega⟩
    have hi : i < es.length := by omega
    rw [impl_GraphNear.l0]
    rw [if_pos (by omega), if_pos (by omega), if_pos (by omega), rdE_at hi, List.drop_eq_getElem_cons hi, w1n i (by omega)]
    unfold adj
    rw [List.filterMap_cons]
    unfold oth
    by_cases c1 : (a == es[i].f1.f0 && (b == es[i].f1.f1)) = true
    · rw [if_pos c1, if_pos c1, if_pos (by omega)]
      rw [ih k (i + 1) _ (by omega) (by simp; omega) (by omega)]
      simp only [List.append_assoc]; rfl
    · rw [if_neg c1, if_neg c1]
      by_cases c2 : (a == es[i].f2.f0 && (b == es[i].f2.f1)) = true
      · rw [if_pos c2, if_pos c2, if_pos (by omega)]
        rw [ih k (i + 1) _ (by omega) (by simp; omega) (by omega)]
        simp only [List.append_assoc]; rfl
      · rw [if_neg c2, if_neg c2]
        exact ih k (i + 1) z (by omega) (by omega) (by omega)
theorem iNear (ns : List S36) (es : List S56) (a b : Int) (hn : ns.length ≤ 2097152) (hm : es.length ≤ 2097152) (k : Nat) (hk : 2 * ns.length + 2 * es.length + 100 < k) : impl_GraphNear.f k ns es a b = some (if GOk ns es = true then nearL es a b else []) := by
  unfold impl_GraphNear.f
  rw [iGraphOk_ok ns es hn hm k hk]
  simp only [Option.bind_some]
  by_cases h : GOk ns es = true
  · rw [if_pos h, if_pos h]
    exact near_l0 es hm a b es.length k 0 [] (by omega) (by simp) (by omega)
  · rw [if_neg h, if_neg h]
/-- Ends of edges of a right graph are right, and among its nodes. -/
theorem EAsc_in (ns : List S36) : ∀ (es : List S56) (p : Option S56), EAsc ns es p = true → ∀ e ∈ es, In ns e.f1.f0 e.f1.f1 = true ∧ In ns e.f2.f0 e.f2.f1 = true
  | [], _, _, e, he => by simp at he
  | x :: es, p, h, e, he => by
    simp only [EAsc, Bool.and_eq_true] at h
    rcases List.mem_cons.1 he with rfl | he
    · exact ⟨h.2.2.1, h.2.2.2.1⟩
    · exact EAsc_in ns es _ h.2.2.2.2 e he
theorem adj_ok {ns : List S36} {es : List S56} (h : GOk ns es = true) (a b : Int) : ∀ x ∈ adj es a b, nOk x.f0 x.f1 = true := by
  intro x hx
  simp only [GOk, Bool.and_eq_true] at h
  unfold adj at hx
  obtain ⟨e, he, ho⟩ := List.mem_filterMap.1 hx
  have hE := (Eo_iff.1 (EAsc_ok ns es none h.2.1 e he))
  unfold oth at ho
  split at ho
  · obtain rfl := Option.some.inj ho; exact hE.2.2.1
  · split at ho
    · obtain rfl := Option.some.inj ho; exact hE.2.1
    · cases ho
theorem nearL_mem (es : List S56) (a b : Int) (z : S36) : z ∈ nearL es a b ↔ z ∈ adj es a b := by
  unfold nearL
  rw [cmpN_mem]
  exact (srtN_perm _).mem_iff
theorem nearL_SA {ns : List S36} {es : List S56} (h : GOk ns es = true) (a b : Int) : SA (nearL es a b) :=
  cmpN_SA _ (fun x hx => adj_ok h a b x ((srtN_perm _).mem_iff.1 hx)) (srtN_sorted _)

/-- A node put into a row, ahead of the first that is not less. -/
def putN (xs : List S36) (x : S36) : List S36 := xs.takeWhile (fun y => decide (cd y < cd x)) ++ x :: xs.dropWhile (fun y => decide (cd y < cd x))
theorem l2Code_ok {a b : Int} (h : nOk a b = true) : spec_l2Code.f a b = some (Cd a b) := by
  unfold spec_l2Code.f Cd
  have := nOk_iff.1 h
  rw [if_pos h, w64 (x := a * 64) (by omega), w64 (x := a * 64 + b) (by omega)]
  congr 1; omega
theorem tw_take (p : S36 → Bool) : ∀ (xs : List S36) (i : Nat), i ≤ xs.length → (∀ j (h : j < xs.length), j < i → p xs[j] = true) → (∀ h : i < xs.length, p xs[i] = false) → xs.takeWhile p = xs.take i ∧ xs.dropWhile p = xs.drop i
  | [], i, hi, _, _ => by simp
  | x :: xs, 0, _, _, h => by
    have := h (by simp)
    simp only [List.getElem_cons_zero] at this
    simp [List.takeWhile_cons, List.dropWhile_cons, this]
  | x :: xs, i + 1, hi, h1, h2 => by
    have h0 := h1 0 (by simp) (by omega)
    simp only [List.getElem_cons_zero] at h0
    obtain ⟨e1, e2⟩ := tw_take p xs i (by simpa using hi) (fun j hj hji => by
      have := h1 (j + 1) (by simp; omega) (by omega)
      simpa using this) (fun h => by
      have := h2 (by simp; omega)
      simpa using this)
    simp [List.takeWhile_cons, List.dropWhile_cons, h0, e1, e2]
theorem put_l0 (xs : List S36) (es : List S56) (x : S36) (hm : xs.length ≤ 2097152) (ho : ∀ y ∈ xs, nOk y.f0 y.f1 = true) (hx : nOk x.f0 x.f1 = true) : ∀ (d k i : Nat), i + d = xs.length → (∀ j (h : j < xs.length), j < i → decide (cd xs[j] < cd x) = true) → d < k →
    spec_l2PutNode.l0 k (i : Int) xs es x.f0 x.f1 = some (putN xs x, es) := by
  have fin : ∀ i, i ≤ xs.length → xs.takeWhile (fun y => decide (cd y < cd x)) = xs.take i → xs.dropWhile (fun y => decide (cd y < cd x)) = xs.drop i →
      putN xs x = xs.take i ++ [(⟨x.f0, x.f1⟩ : S36)] ++ (([] : List S36) ++ xs.drop i) := by
    intro i _ e1 e2
    unfold putN
    rw [e1, e2]; simp
  intro d
  induction d with
  | zero =>
    intro k i hd hlt hk
    obtain ⟨k, rfl⟩ : ∃ q, k = q + 1 := ⟨k - 1, by omega⟩
    obtain ⟨e1, e2⟩ := tw_take (fun y => decide (cd y < cd x)) xs i (by omega) hlt (fun h => by omega)
    have l1 : (xs.take i).length ≤ 2097152 := by rw [List.length_take]; omega
    have l2 : (xs.drop i).length ≤ 2097152 := by rw [List.length_drop]; omega
    rw [spec_l2PutNode.l0, fin i (by omega) e1 e2]
    rw [if_neg (by omega)]
    simp only [Option.bind_some, Int.toNat_natCast, List.nil_append, List.length_nil]
    rw [if_pos (by omega), if_pos (by omega), if_pos (by omega), if_pos (by omega), if_pos (by simp; omega)]
  | succ d ih =>
    intro k i hd hlt hk
    obtain ⟨k, rfl⟩ : ∃ q, k = q + 1 := ⟨k - 1, by omega⟩
    have hi : i < xs.length := by omega
    rw [spec_l2PutNode.l0]
    rw [if_pos (by omega), if_pos (by omega), rdT_at hi, l2Code_ok (ho _ (List.getElem_mem hi)), l2Code_ok hx]
    simp only [Option.bind_some]
    by_cases c : Cd xs[i].f0 xs[i].f1 < Cd x.f0 x.f1
    · rw [if_pos c, w1n i (by omega)]
      exact ih k (i + 1) (by omega) (fun j hj hji => by
        rcases Nat.lt_or_eq_of_le (Nat.lt_succ_iff.1 hji) with h | h
        · exact hlt j hj h
        · subst h; exact decide_eq_true c) (by omega)
    · rw [if_neg c]
      obtain ⟨e1, e2⟩ := tw_take (fun y => decide (cd y < cd x)) xs i (by omega) hlt (fun h => decide_eq_false c)
      have l1 : (xs.take i).length ≤ 2097152 := by rw [List.length_take]; omega
      have l2 : (xs.drop i).length ≤ 2097152 := by rw [List.length_drop]; omega
      rw [fin i (by omega) e1 e2]
      simp only [Int.toNat_natCast, List.nil_append, List.length_nil]
      rw [if_pos (by omega), if_pos (by omega), if_pos (by omega), if_pos (by simp; omega)]
theorem putN_len (xs : List S36) (x : S36) : (putN xs x).length = xs.length + 1 := by
  have h := congrArg List.length (List.takeWhile_append_dropWhile (p := fun y => decide (cd y < cd x)) (l := xs))
  rw [List.length_append] at h
  unfold putN
  rw [List.length_append, List.length_cons]; omega
theorem putN_mem (xs : List S36) (x z : S36) : z ∈ putN xs x ↔ z ∈ xs ∨ z = x := by
  have h := List.takeWhile_append_dropWhile (p := fun y => decide (cd y < cd x)) (l := xs)
  unfold putN
  conv => rhs; rw [← h]
  simp only [List.mem_append, List.mem_cons]
  constructor
  · rintro (h | rfl | h)
    · exact .inl (.inl h)
    · exact .inr rfl
    · exact .inl (.inr h)
  · rintro ((h | h) | rfl)
    · exact .inl h
    · exact .inr (.inr h)
    · exact .inr (.inl rfl)
theorem putN_SA : ∀ (xs : List S36) (x : S36), SA xs → (∀ y ∈ xs, cd y ≠ cd x) → SA (putN xs x)
  | [], x, _, _ => by simp [putN, SA]
  | y :: xs, x, h, hne => by
    obtain ⟨h1, h2⟩ := List.pairwise_cons.1 h
    by_cases c : cd y < cd x
    · have ih := putN_SA xs x h2 (fun z hz => hne z (List.mem_cons_of_mem _ hz))
      have e : putN (y :: xs) x = y :: putN xs x := by simp [putN, List.takeWhile_cons, List.dropWhile_cons, c]
      rw [e]
      refine List.pairwise_cons.2 ⟨fun z hz => ?_, ih⟩
      rcases (putN_mem xs x z).1 hz with hz | rfl
      · exact h1 z hz
      · exact c
    · have e : putN (y :: xs) x = x :: y :: xs := by simp [putN, List.takeWhile_cons, List.dropWhile_cons, c]
      rw [e]
      have hxy : cd x < cd y := by have := hne y List.mem_cons_self; omega
      refine List.pairwise_cons.2 ⟨fun z hz => ?_, h⟩
      rcases List.mem_cons.1 hz with rfl | hz
      · exact hxy
      · have := h1 z hz; omega
theorem In_mem {ns : List S36} {x : S36} : In ns x.f0 x.f1 = true ↔ x ∈ ns := by
  unfold In
  rw [List.any_eq_true]
  constructor
  · rintro ⟨y, hy, e⟩
    exact (eqN.1 e) ▸ hy
  · intro h
    exact ⟨x, h, by simp⟩
/-- One node more, or the next edge. -/
theorem near_j1 (ns : List S36) (es : List S56) (a b : Int) (i : Nat) (out : List S36) (x : S36) (R : List S36 → Prop) (hl : out.length ≤ 1000) (hi : i ≤ 1000)
    (hS : SA out) (ho : ∀ y ∈ out, nOk y.f0 y.f1 = true) (hx : nOk x.f0 x.f1 = true) (k : Nat) (hk : 3000 < k)
    (nx : ∀ out' : List S36, out'.length ≤ out.length + 1 → SA out' → (∀ z, z ∈ out' ↔ z ∈ out ∨ z = x) → ∃ r, spec_l2Near.l0 k ((i + 1 : Nat) : Int) ns es a b out' [] = some r ∧ R r) :
    ∃ r, spec_l2Near.j1 (k + 1) (i : Int) ns es a b out [] x.f0 x.f1 = some r ∧ R r := by
  rw [spec_l2Near.j1]
  obtain ⟨q, q1, q2⟩ := at_ok out [] (by omega) x.f0 x.f1 k (by omega)
  rw [q1]
  simp only [Option.bind_some]
  rw [w1n i (by omega)]
  by_cases c : q < 0
  · rw [if_pos c]
    rw [decide_eq_true c] at q2
    have hn : x ∉ out := fun h => by rw [In_mem.2 h] at q2; simp at q2
    have hp := put_l0 out [] x (by omega) ho hx out.length k 0 (by omega) (fun j _ hj => by omega) (by omega)
    unfold spec_l2PutNode.f
    rw [show (0 : Int) = ((0 : Nat) : Int) from rfl, hp]
    simp only [Option.bind_some]
    exact nx (putN out x) (by rw [putN_len]; omega) (putN_SA out x hS (fun y hy e => hn (cd_inj (ho y hy) hx e ▸ hy))) (putN_mem out x)
  · rw [if_neg c]
    rw [decide_eq_false c] at q2
    have hy : x ∈ out := In_mem.1 (by revert q2; cases In out x.f0 x.f1 <;> simp)
    exact nx out (by omega) hS (fun z => ⟨fun h => .inl h, fun h => h.elim id (fun e => e ▸ hy)⟩)
theorem snear_l0 (ns : List S36) (es : List S56) (h : GOk ns es = true) (a b : Int) : ∀ (d k : Nat) (i : Nat) (out : List S36), i + d = es.length → out.length ≤ i → SA out → (∀ y ∈ out, nOk y.f0 y.f1 = true) → 3000 + 2 * d < k →
    ∃ r, spec_l2Near.l0 k (i : Int) ns es a b out [] = some r ∧ SA r ∧ ∀ z, z ∈ r ↔ z ∈ out ∨ z ∈ adj (es.drop i) a b := by
  have h' := h
  simp only [GOk, Bool.and_eq_true] at h'
  have hL := Few_lenE h'.2.2 h'.2.1
  intro d
  induction d with
  | zero =>
    intro k i out hd hl hS ho hk
    obtain ⟨k, rfl⟩ : ∃ q, k = q + 1 := ⟨k - 1, by omega⟩
    rw [spec_l2Near.l0]
    rw [if_neg (by omega), List.drop_of_length_le (by omega)]
    simp only [Option.bind_some, List.nil_append, List.length_nil]
    rw [if_pos (by omega)]
    exact ⟨out, rfl, hS, fun z => by simp [adj]⟩
  | succ d ih =>
    intro k i out hd hl hS ho hk
    obtain ⟨k, rfl⟩ : ∃ q, k = q + 2 := ⟨k - 2, by omega⟩
    have hi : i < es.length := by omega
    have hE := (Eo_iff.1 (EAsc_ok ns es none h'.2.1 es[i] (List.getElem_mem hi)))
    rw [spec_l2Near.l0]
    rw [if_pos (by omega), if_pos (by omega), rdE_at hi, List.drop_eq_getElem_cons hi]
    have hadj : adj (es[i] :: es.drop (i + 1)) a b = (oth a b es[i]).toList ++ adj (es.drop (i + 1)) a b := by
      unfold adj
      rw [List.filterMap_cons]
      cases oth a b es[i] <;> rfl
    rw [hadj]
    have eA : ((es[i].f1.f0 == a) && (es[i].f1.f1 == b)) = (a == es[i].f1.f0 && (b == es[i].f1.f1)) := by rw [Bool.beq_comm (a := es[i].f1.f0), Bool.beq_comm (a := es[i].f1.f1)]
    have eB : ((es[i].f2.f0 == a) && (es[i].f2.f1 == b)) = (a == es[i].f2.f0 && (b == es[i].f2.f1)) := by rw [Bool.beq_comm (a := es[i].f2.f0), Bool.beq_comm (a := es[i].f2.f1)]
    have go : ∀ x : S36, nOk x.f0 x.f1 = true → ∃ r, spec_l2Near.j1 (k + 1) (i : Int) ns es a b out [] x.f0 x.f1 = some r ∧ SA r ∧ ∀ z, z ∈ r ↔ z ∈ out ∨ z ∈ [x] ++ adj (es.drop (i + 1)) a b := by
      intro x hx
      refine near_j1 ns es a b i out x _ (by omega) (by omega) hS ho hx k (by omega) (fun out' hl' hS' hm' => ?_)
      obtain ⟨r, r1, r2, r3⟩ := ih k (i + 1) out' (by omega) (by omega) hS' (fun y hy => by
        rcases (hm' y).1 hy with h | rfl
        · exact ho y h
        · exact hx) (by omega)
      refine ⟨r, r1, r2, fun z => ?_⟩
      rw [r3, hm']
      simp only [List.mem_append, List.mem_singleton]
      constructor
      · rintro ((h | h) | h)
        · exact .inl h
        · exact .inr (.inl h)
        · exact .inr (.inr h)
      · rintro (h | h | h)
        · exact .inl (.inl h)
        · exact .inl (.inr h)
        · exact .inr h
    unfold oth
    by_cases c1 : (a == es[i].f1.f0 && (b == es[i].f1.f1)) = true
    · rw [if_pos (eA.trans c1), if_pos c1]
      exact go es[i].f2 hE.2.2.1
    · rw [if_neg (fun q => c1 (eA.symm.trans q)), if_neg c1]
      by_cases c2 : (a == es[i].f2.f0 && (b == es[i].f2.f1)) = true
      · rw [if_neg (by rw [← eB, Bool.and_eq_true] at c2; rw [c2.1, c2.2]; simp), if_pos c2]
        exact go es[i].f1 hE.2.1
      · rw [if_pos (by
          rw [← eB] at c2; revert c2
          cases es[i].f2.f0 == a <;> cases es[i].f2.f1 == b <;> simp), if_neg c2, w1n i (by omega)]
        exact ih (k + 1) (i + 1) out (by omega) (by omega) hS ho (by omega)
theorem sl2Near (ns : List S36) (es : List S56) (h : GOk ns es = true) (a b : Int) (k : Nat) (hk : 3200 < k) : spec_l2Near.f k ns es a b = some (nearL es a b) := by
  have h' := h
  simp only [GOk, Bool.and_eq_true] at h'
  have hL := Few_lenE h'.2.2 h'.2.1
  obtain ⟨r, r1, r2, r3⟩ := snear_l0 ns es h a b es.length k 0 [] (by omega) (by simp) List.Pairwise.nil (by simp) (by omega)
  unfold spec_l2Near.f
  rw [show (0 : Int) = ((0 : Nat) : Int) from rfl, r1]
  congr 1
  refine SA_uniq _ _ r2 (nearL_SA h a b) (fun z => ?_)
  rw [r3, nearL_mem]; simp

/-- Where a node stands. -/
def ps (ns : List S36) (x : S36) : Nat := ns.findIdx fun y => y.f0 == x.f0 && (y.f1 == x.f1)
theorem ps_lt {ns : List S36} {x : S36} (h : x ∈ ns) : ps ns x < ns.length := by
  unfold ps
  exact List.findIdx_lt_length_of_exists ⟨x, h, by simp⟩
theorem ps_get {ns : List S36} {x : S36} (h : x ∈ ns) : ns[ps ns x]'(ps_lt h) = x := by
  have := List.findIdx_getElem (xs := ns) (p := fun y : S36 => y.f0 == x.f0 && (y.f1 == x.f1)) (w := ps_lt h)
  exact eqN.1 this
theorem SA_get {ns : List S36} (h : SA ns) {i j : Nat} (hi : i < ns.length) (hj : j < ns.length) (e : ns[i] = ns[j]) : i = j := by
  rcases Nat.lt_trichotomy i j with c | c | c
  · have := (List.pairwise_iff_getElem.1 h) i j hi hj c; rw [e] at this; omega
  · exact c
  · have := (List.pairwise_iff_getElem.1 h) j i hj hi c; rw [e] at this; omega
theorem ps_at {ns : List S36} (h : SA ns) {i : Nat} (hi : i < ns.length) : ps ns ns[i] = i :=
  SA_get h (ps_lt (List.getElem_mem hi)) hi (ps_get (List.getElem_mem hi))
theorem Asc_SA {ns : List S36} {l : Int} (h : Asc ns l = true) : SA ns :=
  List.pairwise_iff_getElem.2 fun i j hi hj hij => Asc_mono ns l h i j hij hj
/-- The place, or -1. -/
def pz (ns : List S36) (x : S36) : Int := if In ns x.f0 x.f1 = true then (ps ns x : Int) else -1
theorem pz_in {ns : List S36} {x : S36} (h : x ∈ ns) : pz ns x = (ps ns x : Int) := by unfold pz; rw [if_pos (In_mem.2 h)]
theorem l2At_l0 (ns : List S36) (es : List S56) (hm : ns.length ≤ 2097152) (x : S36) : ∀ (d k i : Nat), i + d = ns.length → (∀ j (h : j < ns.length), j < i → (ns[j].f0 == x.f0 && (ns[j].f1 == x.f1)) = false) → d < k → spec_l2At.l0 k (i : Int) ns es x.f0 x.f1 = some (pz ns x) := by
  intro d
  induction d with
  | zero =>
    intro k i hd hn hk
    obtain ⟨k, rfl⟩ : ∃ q, k = q + 1 := ⟨k - 1, by omega⟩
    rw [spec_l2At.l0]
    rw [if_neg (by omega)]
    unfold pz
    rw [if_neg]
    intro h
    have hx := In_mem.1 h
    have := hn (ps ns x) (ps_lt hx) (by have := ps_lt hx; omega)
    rw [ps_get hx] at this
    simp at this
  | succ d ih =>
    intro k i hd hn hk
    obtain ⟨k, rfl⟩ : ∃ q, k = q + 1 := ⟨k - 1, by omega⟩
    have hi : i < ns.length := by omega
    rw [spec_l2At.l0]
    rw [if_pos (by omega), if_pos (by omega), rdT_at hi]
    by_cases c : (ns[i].f0 == x.f0 && (ns[i].f1 == x.f1)) = true
    · rw [if_pos c]
      have e : ps ns x = i := by
        unfold ps
        rw [List.findIdx_eq hi]
        exact ⟨c, fun j hj => hn j (by omega) hj⟩
      have hx : x ∈ ns := (eqN.1 c) ▸ List.getElem_mem hi
      rw [pz_in hx, e]
    · rw [if_neg c, w1n i (by omega)]
      exact ih k (i + 1) (by omega) (fun j hj hji => by
        rcases Nat.lt_or_eq_of_le (Nat.lt_succ_iff.1 hji) with h | h
        · exact hn j hj h
        · subst h; simpa using c) (by omega)
theorem l2At_ok (ns : List S36) (es : List S56) (hm : ns.length ≤ 2097152) (x : S36) (k : Nat) (hk : ns.length < k) : spec_l2At.f k ns es x.f0 x.f1 = some (pz ns x) := by
  unfold spec_l2At.f
  exact l2At_l0 ns es hm x ns.length k 0 (by omega) (fun j _ h => by omega) hk
theorem bsf_hit (xs : List S36) (a b : Int) : ∀ (k : Nat) (i j p : Int), 0 ≤ i → impl_bsf.l0 k xs a b i j = some (p, true) → 0 ≤ p ∧ p < xs.length ∧ (oN (rd_T36 xs p).f0 (rd_T36 xs p).f1 a b == 0) = true := by
  intro k
  induction k with
  | zero => intro i j p _ h; simp [impl_bsf.l0] at h
  | succ k ih =>
    intro i j p hi h
    rw [impl_bsf.l0] at h
    by_cases c : i < j
    · rw [if_pos c] at h
      by_cases c2 : oN (rd_T36 xs ((i + j) / 2)).f0 (rd_T36 xs ((i + j) / 2)).f1 a b < 0
      · rw [if_pos c2] at h; exact ih _ _ _ (by omega) h
      · rw [if_neg c2] at h; exact ih _ _ _ hi h
    · rw [if_neg c] at h
      simp only [Option.some.injEq, Prod.mk.injEq] at h
      obtain ⟨rfl, h⟩ := h
      by_cases c2 : i < (xs.length : Int)
      · rw [if_pos c2] at h; exact ⟨hi, c2, h⟩
      · rw [if_neg c2] at h; cases h
theorem place_ok {ns : List S36} (es : List S56) (hA : Asc ns (-1) = true) (x : S36) (k : Nat) (hk : ns.length < k) : impl_nodePlace.f k ns es x.f0 x.f1 = some (pz ns x) := by
  unfold impl_nodePlace.f
  by_cases ht : nOk x.f0 x.f1 = true
  · rw [if_pos ht]
    obtain ⟨p, hp⟩ := bsf_l0 ns x.f0 x.f1 hA ht ns.length k 0 ns.length (by omega) (by omega) (by omega) (fun q h hq => by omega) (fun q h hq => by omega) hk
    unfold impl_bsf.f
    rw [show ((0 : Nat) : Int) = 0 from rfl] at hp
    rw [hp]
    simp only [Option.bind_some]
    unfold pz
    by_cases h : In ns x.f0 x.f1 = true
    · rw [if_pos h, if_pos h]
      rw [h] at hp
      obtain ⟨h0, h1, h2⟩ := bsf_hit ns x.f0 x.f1 k 0 ns.length p (by omega) hp
      obtain ⟨q, rfl⟩ := Int.eq_ofNat_of_zero_le h0
      have hq : q < ns.length := by omega
      rw [rdT_at hq] at h2
      have e := oN_zero.1 h2
      have o := (Asc_ok ns (-1) (by omega) hA _ (List.getElem_mem hq)).1
      have e2 : ns[q] = x := cd_inj o ht e
      have := ps_at (Asc_SA hA) hq
      rw [e2] at this
      rw [this]
    · rw [if_neg h, if_neg h]
  · rw [if_neg ht]
    unfold pz
    rw [if_neg]
    intro h
    have hx := In_mem.1 h
    exact ht (Asc_ok ns (-1) (by omega) hA x hx).1
theorem GOk_parts {ns : List S36} {es : List S56} (h : GOk ns es = true) : Asc ns (-1) = true ∧ EAsc ns es none = true ∧ ns.length ≤ 40 ∧ es.length ≤ 56 := by
  simp only [GOk, Bool.and_eq_true] at h
  exact ⟨h.1, h.2.1, Few_len h.2.2 h.1, Few_lenE h.2.2 h.2.1⟩
theorem near_in {ns : List S36} {es : List S56} (h : GOk ns es = true) (a b : Int) {x : S36} (hx : x ∈ nearL es a b) : x ∈ ns := by
  rw [nearL_mem] at hx
  unfold adj at hx
  obtain ⟨e, he, ho⟩ := List.mem_filterMap.1 hx
  have hE := EAsc_in ns es none (GOk_parts h).2.1 e he
  unfold oth at ho
  split at ho
  · obtain rfl := Option.some.inj ho; exact In_mem.1 hE.2
  · split at ho
    · obtain rfl := Option.some.inj ho; exact In_mem.1 hE.1
    · cases ho
/-- An edge joins one to the other. -/
theorem near_sym {ns : List S36} {es : List S56} (h : GOk ns es = true) {x y : S36} (hx : x ∈ nearL es y.f0 y.f1) : y ∈ nearL es x.f0 x.f1 := by
  rw [nearL_mem] at hx ⊢
  unfold adj at hx ⊢
  obtain ⟨e, he, ho⟩ := List.mem_filterMap.1 hx
  have hE := Eo_iff.1 (EAsc_ok ns es none (GOk_parts h).2.1 e he)
  refine List.mem_filterMap.2 ⟨e, he, ?_⟩
  unfold oth at ho ⊢
  by_cases c1 : (y.f0 == e.f1.f0 && (y.f1 == e.f1.f1)) = true
  · rw [if_pos c1] at ho
    obtain rfl := Option.some.inj ho
    have ey : y = e.f1 := eqN.1 c1
    rw [if_neg, if_pos (by simp), ey]
    intro q
    have := eqN.1 q
    rw [this] at hE
    omega
  · rw [if_neg c1] at ho
    by_cases c2 : (y.f0 == e.f2.f0 && (y.f1 == e.f2.f1)) = true
    · rw [if_pos c2] at ho
      obtain rfl := Option.some.inj ho
      have ey : y = e.f2 := eqN.1 c2
      rw [if_pos (by simp), ey]
    · rw [if_neg c2] at ho; cases ho
theorem near_irr {ns : List S36} {es : List S56} (h : GOk ns es = true) (x : S36) : x ∉ nearL es x.f0 x.f1 := by
  intro hx
  rw [nearL_mem] at hx
  unfold adj at hx
  obtain ⟨e, he, ho⟩ := List.mem_filterMap.1 hx
  have hE := Eo_iff.1 (EAsc_ok ns es none (GOk_parts h).2.1 e he)
  unfold oth at ho
  by_cases c1 : (x.f0 == e.f1.f0 && (x.f1 == e.f1.f1)) = true
  · rw [if_pos c1] at ho
    have e2 := Option.some.inj ho
    have ey := eqN.1 c1
    rw [← ey, e2] at hE; omega
  · rw [if_neg c1] at ho
    by_cases c2 : (x.f0 == e.f2.f0 && (x.f1 == e.f2.f1)) = true
    · rw [if_pos c2] at ho
      have e2 := Option.some.inj ho
      have ey := eqN.1 c2
      rw [← ey, e2] at hE; omega
    · rw [if_neg c2] at ho; cases ho
theorem nearL_len (es : List S56) (a b : Int) : (nearL es a b).length ≤ es.length := by
  have h1 : ∀ (t : List S36) (p : S36), (kp p t).length ≤ t.length := by
    intro t
    induction t with
    | nil => intro p; simp [kp]
    | cons x t ih =>
      intro p
      unfold kp
      split
      · have := ih x; simp; omega
      · have := ih x; simp; omega
  have h2 : ∀ t : List S36, (cmpN t).length ≤ t.length := by
    intro t
    cases t with
    | nil => simp [cmpN]
    | cons x t => have := h1 t x; simp [cmpN]; omega
  have h3 := h2 (srtN (adj es a b))
  rw [srtN_len] at h3
  have : (adj es a b).length ≤ es.length := List.length_filterMap_le _ _
  unfold nearL; omega
/-- The places of those near the node at a place. -/
def nbz (ns : List S36) (es : List S56) (x : S36) : List Int := (nearL es x.f0 x.f1).map fun y => ((ps ns y : Nat) : Int)
def NP (ns : List S36) (es : List S56) : List (List Int) := ns.map (nbz ns es)
theorem rdL_at {xs : List (List Int)} {i : Nat} (h : i < xs.length) : rd_L9 xs (i : Int) = xs[i] := by
  unfold rd_L9; rw [Int.toNat_natCast, List.getD_eq_getElem?_getD, List.getElem?_eq_getElem h]; rfl
theorem np_l1 {ns : List S36} {es : List S56} (h : GOk ns es = true) (i : Nat) (hi : i < ns.length) (L : List S36) (hL : ∀ y ∈ L, y ∈ ns) (hLl : L.length ≤ 56) (R : Option (List (List Int))) (K : Nat) (hK : 100 < K) :
    ∀ (d k j : Nat) (X : List (List Int)) (hX : X.length = ns.length), j + d = L.length → (X[i]'(by omega)).length ≤ j → K + d < k →
    (∀ q, K ≤ q → impl_nearPlaces.l0 q (X.set i (X[i]'(by omega) ++ (L.drop j).map fun y => ((ps ns y : Nat) : Int))) ns (ns.length : Int) ((i + 1 : Nat) : Int) ns es = R) →
    impl_nearPlaces.l1 k X (i : Int) ns (ns.length : Int) (i : Int) L (L.length : Int) (j : Int) ns es = R := by
  obtain ⟨hA, _, hn, _⟩ := GOk_parts h
  intro d
  induction d with
  | zero =>
    intro k j X hX hd hl hk hR
    obtain ⟨k, rfl⟩ : ∃ q, k = q + 1 := ⟨k - 1, by omega⟩
    rw [impl_nearPlaces.l1]
    rw [if_neg (by omega), w1n i (by omega)]
    rw [List.drop_of_length_le (by omega), List.map_nil, List.append_nil, List.set_getElem_self] at hR
    exact hR k (by omega)
  | succ d ih =>
    intro k j X hX hd hl hk hR
    obtain ⟨k, rfl⟩ : ∃ q, k = q + 1 := ⟨k - 1, by omega⟩
    have hj : j < L.length := by omega
    rw [impl_nearPlaces.l1]
    rw [if_pos (by omega), if_pos (by omega), if_pos (by omega), if_pos (by omega), if_pos (by omega), rdT_at hj, place_ok es hA L[j] k (by omega), pz_in (hL _ (List.getElem_mem hj))]
    simp only [Option.bind_some]
    rw [rdL_at (show i < X.length by omega), if_pos (by omega), w1n j (by omega), Int.toNat_natCast]
    refine ih k (j + 1) _ (by simpa using hX) (by omega) (by simp; omega) (by omega) (fun q hq => ?_)
    have := hR q hq
    rw [List.drop_eq_getElem_cons hj, List.map_cons] at this
    rw [← this]
    simp
theorem np_l0 {ns : List S36} {es : List S56} (h : GOk ns es = true) : ∀ (d k i : Nat) (X : List (List Int)), X.length = ns.length → i + d = ns.length → (∀ j (hj : j < X.length), i ≤ j → X[j] = []) → 1000 + 60 * d < k →
    impl_nearPlaces.l0 k X ns (ns.length : Int) (i : Int) ns es = some (X.take i ++ (ns.drop i).map (nbz ns es)) := by
  obtain ⟨hA, _, hn, hm⟩ := GOk_parts h
  intro d
  induction d with
  | zero =>
    intro k i X hX hd hz hk
    obtain ⟨k, rfl⟩ : ∃ q, k = q + 1 := ⟨k - 1, by omega⟩
    rw [impl_nearPlaces.l0]
    rw [if_neg (by omega), List.drop_of_length_le (by omega), List.take_of_length_le (by omega), List.map_nil, List.append_nil]
  | succ d ih =>
    intro k i X hX hd hz hk
    obtain ⟨k, rfl⟩ : ∃ q, k = q + 1 := ⟨k - 1, by omega⟩
    have hi : i < ns.length := by omega
    rw [impl_nearPlaces.l0]
    rw [if_pos (by omega), if_pos (by omega), if_pos (by omega), rdT_at hi, iNear ns es _ _ (by omega) (by omega) k (by omega), if_pos h]
    simp only [Option.bind_some]
    have hl := nearL_len es ns[i].f0 ns[i].f1
    have hzi := hz i (by omega) (Nat.le_refl _)
    refine np_l1 h i hi (nearL es ns[i].f0 ns[i].f1) (fun y hy => near_in h _ _ hy) (by omega) _ (1000 + 60 * d + 1) (by omega) _ k 0 X hX (by simp; rfl) (by rw [hzi]; simp) (by omega) (fun q hq => ?_)
    rw [ih q (i + 1) _ (by simpa using hX) (by omega) (fun j hj hij => by
      rw [List.getElem_set_ne (by omega)]
      exact hz j (by simpa using hj) (by omega)) (by omega)]
    rw [hzi, List.nil_append, List.drop_zero, List.drop_eq_getElem_cons hi, List.map_cons]
    rw [List.take_succ_eq_append_getElem (by simp; omega), List.take_set_of_le (Nat.le_refl _), List.getElem_set_self, List.append_assoc]
    rfl
theorem np_ok {ns : List S36} {es : List S56} (h : GOk ns es = true) (k : Nat) (hk : 4000 < k) : impl_nearPlaces.f k ns es = some (NP ns es) := by
  obtain ⟨_, _, hn, _⟩ := GOk_parts h
  unfold impl_nearPlaces.f
  rw [if_pos (by omega), if_pos (by omega)]
  rw [show (0 : Int) = ((0 : Nat) : Int) from rfl, Int.toNat_natCast, np_l0 h ns.length k 0 _ (by simp) (by omega) (fun j hj _ => by simp) (by omega)]
  simp [NP]

/-- The places of those near the node at a place. -/
def nb (ns : List S36) (es : List S56) (p : Nat) : List Nat := match ns[p]? with
  | some x => (nearL es x.f0 x.f1).map (ps ns)
  | none => []
theorem nb_at {ns : List S36} (es : List S56) {p : Nat} (h : p < ns.length) : nb ns es p = (nearL es ns[p].f0 ns[p].f1).map (ps ns) := by
  unfold nb; rw [List.getElem?_eq_getElem h]
theorem nb_lt {ns : List S36} {es : List S56} (h : GOk ns es = true) : ∀ u, u < ns.length → ∀ o ∈ nb ns es u, o < ns.length := by
  intro u hu o ho
  rw [nb_at es hu] at ho
  obtain ⟨y, hy, rfl⟩ := List.mem_map.1 ho
  exact ps_lt (near_in h _ _ hy)
theorem GOk_SA {ns : List S36} {es : List S56} (h : GOk ns es = true) : SA ns := Asc_SA (GOk_parts h).1
theorem nb_sym {ns : List S36} {es : List S56} (h : GOk ns es = true) {u v : Nat} (hu : u < ns.length) (hv : v ∈ nb ns es u) : u ∈ nb ns es v := by
  have hvl := nb_lt h u hu v hv
  rw [nb_at es hu] at hv
  obtain ⟨y, hy, rfl⟩ := List.mem_map.1 hv
  have hyn := near_in h _ _ hy
  rw [nb_at es hvl, ps_get hyn]
  exact List.mem_map.2 ⟨ns[u], near_sym h hy, ps_at (GOk_SA h) hu⟩
theorem nb_len {ns : List S36} {es : List S56} (h : GOk ns es = true) (u : Nat) : (nb ns es u).length ≤ 56 := by
  unfold nb
  cases ns[u]? with
  | none => simp
  | some x =>
    have := nearL_len es x.f0 x.f1
    have := (GOk_parts h).2.2.2
    simp only [List.length_map]; omega
def castL (m : List Nat) : List Int := m.map fun x : Nat => (x : Int)
theorem castL_len (m : List Nat) : (castL m).length = m.length := by simp [castL]
theorem castL_app (m : List Nat) (o : Nat) : castL m ++ [(o : Int)] = castL (m ++ [o]) := by simp [castL]
theorem rd_cast {m : List Nat} {j : Nat} (h : j < m.length) : rd (castL m) (j : Int) = (m[j] : Int) := by
  unfold rd castL
  rw [Int.toNat_natCast, List.getD_eq_getElem?_getD, List.getElem?_map, List.getElem?_eq_getElem h]; rfl
theorem NP_len (ns : List S36) (es : List S56) : (NP ns es).length = ns.length := by simp [NP]
theorem NP_at {ns : List S36} (es : List S56) {p : Nat} (h : p < ns.length) : rd_L9 (NP ns es) (p : Int) = castL (nb ns es p) := by
  rw [rdL_at (by rw [NP_len]; exact h), nb_at es h]
  simp [NP, nbz, castL]

/-! Going on from one place to those near it, till none is new. -/
/-- The places near one, one behind the other: a new one is v steps away. -/
def bIn (v : Int) : List Nat → List Int → List Nat → List Int × List Nat
  | [], d, m => (d, m)
  | o :: os, d, m => if rd d (o : Int) < 0 then bIn v os (d.set o v) (m ++ [o]) else bIn v os d m
def bOut (nb : Nat → List Nat) : Nat → List Int → List Nat → Nat → List Int × List Nat
  | 0, d, m, _ => (d, m)
  | f + 1, d, m, i => if h : i < m.length then bOut nb f (bIn (rd d (m[i] : Int) + 1) (nb m[i]) d m).1 (bIn (rd d (m[i] : Int) + 1) (nb m[i]) d m).2 (i + 1) else (d, m)
inductive Reach (nb : Nat → List Nat) (s : Nat) : Nat → Prop where
  | refl : Reach nb s s
  | step {u v : Nat} : Reach nb s u → v ∈ nb u → Reach nb s v
theorem rd_set {d : List Int} {o x : Nat} {v : Int} (h : o < d.length) : rd (d.set o v) (x : Int) = if x = o then v else rd d (x : Int) := by
  unfold rd
  rw [Int.toNat_natCast, List.getD_eq_getElem?_getD, List.getElem?_set]
  by_cases e : o = x
  · subst e; rw [if_pos rfl, if_pos h, if_pos rfl]; rfl
  · rw [if_neg e, if_neg (fun q => e q.symm), ← List.getD_eq_getElem?_getD]
theorem nodup_le : ∀ (n : Nat) (m : List Nat), m.Nodup → (∀ x ∈ m, x < n) → m.length ≤ n
  | 0, m, _, h => by
    cases m with
    | nil => simp
    | cons x t => have := h x (by simp); omega
  | n + 1, m, hd, h => by
    have h1 := nodup_le n (m.erase n) (hd.erase n) (fun x hx => by
      have h2 := (List.Nodup.mem_erase_iff hd).1 hx
      have := h x h2.2
      have := h2.1
      omega)
    have h3 := List.length_erase (l := m) (a := n)
    split at h3 <;> omega
structure BI (n : Nat) (nb : Nat → List Nat) (s : Nat) (B : Int) (d : List Int) (m : List Nat) : Prop where
  len : d.length = n
  lt : ∀ x ∈ m, x < n
  nd : m.Nodup
  iff : ∀ x, x < n → (0 ≤ rd d (x : Int) ↔ x ∈ m)
  s0 : s < n ∧ rd d (s : Int) = 0
  z : ∀ x, x < n → rd d (x : Int) = 0 → x = s
  p : ∀ x, x < n → 0 < rd d (x : Int) → ∃ u, u < n ∧ x ∈ nb u ∧ rd d (u : Int) = rd d (x : Int) - 1
  r : ∀ x ∈ m, Reach nb s x
  b : ∀ x, x < n → -1 ≤ rd d (x : Int) ∧ rd d (x : Int) ≤ B
theorem BI.step {n : Nat} {nb : Nat → List Nat} {s : Nat} {B : Int} {d : List Int} {m : List Nat} (h : BI n nb s B d m) {o c : Nat} (ho : o < n) (hn : rd d (o : Int) < 0) (hc : c ∈ m) (hoc : o ∈ nb c) (hv : rd d (c : Int) + 1 ≤ B) :
    BI n nb s B (d.set o (rd d (c : Int) + 1)) (m ++ [o]) := by
  have hl : o < d.length := by rw [h.len]; exact ho
  have hc0 : 0 ≤ rd d (c : Int) := (h.iff c (h.lt c hc)).2 hc
  have hom : o ∉ m := fun q => by have := (h.iff o ho).2 q; omega
  have hco : c ≠ o := fun e => hom (e ▸ hc)
  refine ⟨by simpa using h.len, ?_, ?_, ?_, ⟨h.s0.1, ?_⟩, ?_, ?_, ?_, ?_⟩
  · intro x hx
    rcases List.mem_append.1 hx with hx | hx
    · exact h.lt x hx
    · rw [List.mem_singleton.1 hx]; exact ho
  · rw [List.nodup_append]
    refine ⟨h.nd, by simp, ?_⟩
    intro a ha b hb
    rw [List.mem_singleton.1 hb]
    exact fun e => hom (e ▸ ha)
  · intro x hx
    rw [rd_set hl, List.mem_append, List.mem_singleton]
    by_cases e : x = o
    · rw [if_pos e]; exact ⟨fun _ => .inr e, fun _ => by omega⟩
    · rw [if_neg e, h.iff x hx]; exact ⟨.inl, fun q => q.elim id (fun q => absurd q e)⟩
  · rw [rd_set hl, if_neg]
    · exact h.s0.2
    · intro e; have := h.s0.2; rw [e] at this; omega
  · intro x hx
    rw [rd_set hl]
    by_cases e : x = o
    · rw [if_pos e]; intro q; omega
    · rw [if_neg e]; exact h.z x hx
  · intro x hx
    rw [rd_set hl]
    by_cases e : x = o
    · rw [if_pos e]; intro _
      refine ⟨c, h.lt c hc, e ▸ hoc, ?_⟩
      rw [rd_set hl, if_neg hco]; omega
    · rw [if_neg e]
      intro q
      obtain ⟨u, u1, u2, u3⟩ := h.p x hx q
      refine ⟨u, u1, u2, ?_⟩
      rw [rd_set hl, if_neg]
      · exact u3
      · intro e'; rw [e'] at u3; omega
  · intro x hx
    rcases List.mem_append.1 hx with hx | hx
    · exact h.r x hx
    · rw [List.mem_singleton.1 hx]; exact .step (h.r c hc) hoc
  · intro x hx
    rw [rd_set hl]
    by_cases e : x = o
    · rw [if_pos e]; omega
    · rw [if_neg e]; exact h.b x hx
theorem bIn_BI {n : Nat} {nb : Nat → List Nat} {s : Nat} {B : Int} {c : Nat} : ∀ (os : List Nat) (d : List Int) (m : List Nat), BI n nb s B d m → c ∈ m → rd d (c : Int) + 1 ≤ B → (∀ o ∈ os, o < n ∧ o ∈ nb c) →
    BI n nb s B (bIn (rd d (c : Int) + 1) os d m).1 (bIn (rd d (c : Int) + 1) os d m).2 ∧ (∃ t, (bIn (rd d (c : Int) + 1) os d m).2 = m ++ t) ∧ (∀ o ∈ os, o ∈ (bIn (rd d (c : Int) + 1) os d m).2)
  | [], d, m, h, _, _, _ => ⟨h, ⟨[], by simp [bIn]⟩, by simp⟩
  | o :: os, d, m, h, hc, hv, ho => by
    obtain ⟨o1, o2⟩ := ho o (by simp)
    have ho' : ∀ q ∈ os, q < n ∧ q ∈ nb c := fun q hq => ho q (List.mem_cons_of_mem _ hq)
    unfold bIn
    by_cases c1 : rd d (o : Int) < 0
    · rw [if_pos c1]
      have hom : o ∉ m := fun q => by have := (h.iff o o1).2 q; omega
      have hco : c ≠ o := fun e => hom (e ▸ hc)
      have h2 := h.step o1 c1 hc o2 hv
      have e : rd (d.set o (rd d (c : Int) + 1)) (c : Int) = rd d (c : Int) := by rw [rd_set (by rw [h.len]; exact o1), if_neg hco]
      have ih := bIn_BI os _ _ h2 (List.mem_append_left _ hc) (by rw [e]; exact hv) ho'
      rw [e] at ih
      obtain ⟨i1, ⟨t, i2⟩, i3⟩ := ih
      refine ⟨i1, ⟨[o] ++ t, by rw [i2, List.append_assoc]⟩, fun q hq => ?_⟩
      rcases List.mem_cons.1 hq with rfl | hq
      · rw [i2]; simp
      · exact i3 q hq
    · rw [if_neg c1]
      obtain ⟨i1, ⟨t, i2⟩, i3⟩ := bIn_BI os d m h hc hv ho'
      refine ⟨i1, ⟨t, i2⟩, fun q hq => ?_⟩
      rcases List.mem_cons.1 hq with rfl | hq
      · rw [i2]; exact List.mem_append_left _ ((h.iff q o1).1 (by omega))
      · exact i3 q hq
theorem BI.up {n : Nat} {nb : Nat → List Nat} {s : Nat} {B B' : Int} {d : List Int} {m : List Nat} (h : BI n nb s B d m) (hB : B ≤ B') : BI n nb s B' d m :=
  ⟨h.len, h.lt, h.nd, h.iff, h.s0, h.z, h.p, h.r, fun x hx => ⟨(h.b x hx).1, Int.le_trans (h.b x hx).2 hB⟩⟩
theorem BI.size {n : Nat} {nb : Nat → List Nat} {s : Nat} {B : Int} {d : List Int} {m : List Nat} (h : BI n nb s B d m) : m.length ≤ n := nodup_le n m h.nd h.lt
theorem bOut_BI {n : Nat} {nb : Nat → List Nat} {s : Nat} (hnb : ∀ u, u < n → ∀ o ∈ nb u, o < n) : ∀ (f : Nat) (d : List Int) (m : List Nat) (i : Nat), BI n nb s i d m → i ≤ m.length → n ≤ i + f → (∀ j (hj : j < m.length), j < i → ∀ o ∈ nb m[j], o ∈ m) →
    BI n nb s n (bOut nb f d m i).1 (bOut nb f d m i).2 ∧ ∀ u ∈ (bOut nb f d m i).2, ∀ o ∈ nb u, o ∈ (bOut nb f d m i).2
  | 0, d, m, i, h, hi, hf, hcl => by
    have := h.size
    refine ⟨h.up (by omega), fun u hu o ho => ?_⟩
    obtain ⟨j, hj, rfl⟩ := List.mem_iff_getElem.1 hu
    have hj' : j < m.length := hj
    exact hcl j hj' (by omega) o ho
  | f + 1, d, m, i, h, hi, hf, hcl => by
    unfold bOut
    by_cases c : i < m.length
    · rw [dif_pos c]
      have hm : m[i] ∈ m := List.getElem_mem c
      have hb := (h.b m[i] (h.lt _ hm)).2
      obtain ⟨i1, ⟨t, i2⟩, i3⟩ := bIn_BI (c := m[i]) (nb m[i]) d m (h.up (B' := ((i + 1 : Nat) : Int)) (by omega)) hm (by omega) (fun o ho => ⟨hnb _ (h.lt _ hm) o ho, ho⟩)
      refine bOut_BI hnb f _ _ (i + 1) i1 (by rw [i2]; simp; omega) (by omega) (fun j hj hji o ho => ?_)
      have hj' : j < m.length := by omega
      have e : (bIn (rd d (m[i] : Int) + 1) (nb m[i]) d m).2[j] = m[j] := by
        simp only [i2]
        exact List.getElem_append_left hj'
      rw [e] at ho
      rcases Nat.lt_or_eq_of_le (Nat.lt_succ_iff.1 hji) with q | q
      · rw [i2]; exact List.mem_append_left _ (hcl j hj' q o ho)
      · subst q; exact i3 o ho
    · rw [dif_neg c]
      have := h.size
      refine ⟨h.up (by omega), fun u hu o ho => ?_⟩
      obtain ⟨j, hj, rfl⟩ := List.mem_iff_getElem.1 hu
      have hj' : j < m.length := hj
      exact hcl j hj' (by omega) o ho
/-- From s on. -/
def bfs (n : Nat) (nb : Nat → List Nat) (s : Nat) : List Int × List Nat := bOut nb n ((List.replicate n (-1)).set s 0) [s] 0
theorem bfs_0 {n : Nat} (nb : Nat → List Nat) {s : Nat} (hs : s < n) : BI n nb s 0 ((List.replicate n (-1)).set s 0) [s] := by
  have hl : s < (List.replicate n (-1 : Int)).length := by simpa using hs
  have r0 : ∀ x, x < n → rd (List.replicate n (-1 : Int)) (x : Int) = -1 := fun x hx => by
    unfold rd; rw [Int.toNat_natCast, List.getD_eq_getElem?_getD, List.getElem?_replicate, if_pos hx]; rfl
  refine ⟨by simp, by simp; exact hs, by simp, ?_, ⟨hs, ?_⟩, ?_, ?_, ?_, ?_⟩
  · intro x hx
    rw [rd_set hl, List.mem_singleton]
    by_cases e : x = s
    · simp [e]
    · rw [if_neg e, r0 x hx]; simp [e]
  · rw [rd_set hl, if_pos rfl]
  · intro x hx
    rw [rd_set hl]
    by_cases e : x = s
    · intro _; exact e
    · rw [if_neg e, r0 x hx]; intro q; omega
  · intro x hx
    rw [rd_set hl]
    by_cases e : x = s
    · rw [if_pos e]; intro q; omega
    · rw [if_neg e, r0 x hx]; intro q; omega
  · intro x hx
    rw [List.mem_singleton.1 hx]; exact .refl
  · intro x hx
    rw [rd_set hl]
    by_cases e : x = s
    · rw [if_pos e]; omega
    · rw [if_neg e, r0 x hx]; omega
theorem bfs_ok {n : Nat} {nb : Nat → List Nat} (hnb : ∀ u, u < n → ∀ o ∈ nb u, o < n) {s : Nat} (hs : s < n) : BI n nb s n (bfs n nb s).1 (bfs n nb s).2 ∧ ∀ u ∈ (bfs n nb s).2, ∀ o ∈ nb u, o ∈ (bfs n nb s).2 :=
  bOut_BI hnb n _ _ 0 (bfs_0 nb hs) (by simp) (by omega) (fun j hj h => by omega)

/-! who stays -/
/-- How many of some places stay. -/
def cnt (st : List Bool) (os : List Nat) : Nat := os.countP fun o : Nat => rdOf false st (o : Int)
theorem rdOf_set {d : List Bool} {o x : Nat} {v : Bool} (h : o < d.length) : rdOf false (d.set o v) (x : Int) = if x = o then v else rdOf false d (x : Int) := by
  unfold rdOf
  rw [Int.toNat_natCast, List.getD_eq_getElem?_getD, List.getElem?_set]
  by_cases e : o = x
  · subst e; rw [if_pos rfl, if_pos h, if_pos rfl]; rfl
  · rw [if_neg e, if_neg (fun q => e q.symm), ← List.getD_eq_getElem?_getD]
/-- One round over the places from i on: those with fewer than c go; whether one went. -/
def pl1 (nb : Nat → List Nat) (c : Int) : Nat → List Bool → Bool → Nat → List Bool × Bool
  | 0, st, t, _ => (st, t)
  | f + 1, st, t, i => if rdOf false st (i : Int) = true then (if (cnt st (nb i) : Int) < c then pl1 nb c f (st.set i false) true (i + 1) else pl1 nb c f st t (i + 1)) else pl1 nb c f st t (i + 1)
/-- Rounds till none goes. -/
def pl0 (nb : Nat → List Nat) (c : Int) (n : Nat) : Nat → List Bool → Bool → List Bool
  | 0, st, _ => st
  | f + 1, st, t => if t = true then pl0 nb c n f (pl1 nb c n st false 0).1 (pl1 nb c n st false 0).2 else st
theorem pl1_len (nb : Nat → List Nat) (c : Int) : ∀ (f : Nat) (st : List Bool) (t : Bool) (i : Nat), (pl1 nb c f st t i).1.length = st.length
  | 0, st, t, i => rfl
  | f + 1, st, t, i => by
    unfold pl1
    split
    · split
      · rw [pl1_len nb c f]; simp
      · exact pl1_len nb c f st t (i + 1)
    · exact pl1_len nb c f st t (i + 1)
theorem pl0_len (nb : Nat → List Nat) (c : Int) (n : Nat) : ∀ (f : Nat) (st : List Bool) (t : Bool), (pl0 nb c n f st t).length = st.length
  | 0, st, t => rfl
  | f + 1, st, t => by
    unfold pl0
    split
    · rw [pl0_len nb c n f, pl1_len]
    · rfl
/-- How many stay. -/
def tru (st : List Bool) : Nat := st.countP id
theorem rdOf_at {st : List Bool} {i : Nat} (h : i < st.length) : rdOf false st (i : Int) = st[i] := by
  unfold rdOf; rw [Int.toNat_natCast, List.getD_eq_getElem?_getD, List.getElem?_eq_getElem h]; rfl
theorem tru_set : ∀ {st : List Bool} {i : Nat} (h : i < st.length), st[i] = true → tru (st.set i false) + 1 = tru st
  | b :: st, 0, _, h => by
    simp only [List.getElem_cons_zero] at h
    subst h
    simp [tru]
  | b :: st, i + 1, hi, h => by
    have := tru_set (st := st) (i := i) (by simpa using hi) (by simpa using h)
    unfold tru at this ⊢
    simp only [List.set_cons_succ, List.countP_cons]
    omega
theorem pl1_tru (nb : Nat → List Nat) (c : Int) : ∀ (f : Nat) (st : List Bool) (t : Bool) (i : Nat), i + f ≤ st.length → tru (pl1 nb c f st t i).1 ≤ tru st ∧ ((pl1 nb c f st t i).2 = true → t = true ∨ tru (pl1 nb c f st t i).1 < tru st)
  | 0, st, t, i, _ => ⟨Nat.le_refl _, fun h => .inl h⟩
  | f + 1, st, t, i, h => by
    unfold pl1
    by_cases c1 : rdOf false st (i : Int) = true
    · rw [if_pos c1]
      by_cases c2 : (cnt st (nb i) : Int) < c
      · rw [if_pos c2]
        have hi : i < st.length := by omega
        rw [rdOf_at hi] at c1
        have h1 := tru_set hi c1
        have h2 := pl1_tru nb c f (st.set i false) true (i + 1) (by simp; omega)
        exact ⟨by omega, fun _ => .inr (by omega)⟩
      · rw [if_neg c2]; exact pl1_tru nb c f st t (i + 1) (by omega)
    · rw [if_neg c1]; exact pl1_tru nb c f st t (i + 1) (by omega)
theorem pl1_2 (nb : Nat → List Nat) (c : Int) : ∀ (f : Nat) (st : List Bool) (i : Nat), (pl1 nb c f st true i).2 = true
  | 0, st, i => rfl
  | f + 1, st, i => by
    unfold pl1
    split
    · split
      · exact pl1_2 nb c f _ _
      · exact pl1_2 nb c f _ _
    · exact pl1_2 nb c f _ _
theorem pl1_false (nb : Nat → List Nat) (c : Int) : ∀ (f : Nat) (st : List Bool) (t : Bool) (i : Nat), (pl1 nb c f st t i).2 = false →
    t = false ∧ (pl1 nb c f st t i).1 = st ∧ ∀ j, i ≤ j → j < i + f → rdOf false st (j : Int) = true → c ≤ (cnt st (nb j) : Int)
  | 0, st, t, i => fun h => ⟨h, rfl, fun j h1 h2 => by omega⟩
  | f + 1, st, t, i => by
    unfold pl1
    by_cases c1 : rdOf false st (i : Int) = true
    · rw [if_pos c1]
      by_cases c2 : (cnt st (nb i) : Int) < c
      · rw [if_pos c2, pl1_2]; intro h; cases h
      · rw [if_neg c2]
        intro h
        obtain ⟨a1, a2, a3⟩ := pl1_false nb c f st t (i + 1) h
        refine ⟨a1, a2, fun j h1 h2 h3 => ?_⟩
        by_cases e : j = i
        · subst e; omega
        · exact a3 j (by omega) (by omega) h3
    · rw [if_neg c1]
      intro h
      obtain ⟨a1, a2, a3⟩ := pl1_false nb c f st t (i + 1) h
      refine ⟨a1, a2, fun j h1 h2 h3 => ?_⟩
      by_cases e : j = i
      · subst e; exact absurd h3 c1
      · exact a3 j (by omega) (by omega) h3
/-- All that stay have enough beside them. -/
def Fx (nb : Nat → List Nat) (c : Int) (n : Nat) (st : List Bool) : Prop := ∀ j, j < n → rdOf false st (j : Int) = true → c ≤ (cnt st (nb j) : Int)
theorem tru_le (st : List Bool) : tru st ≤ st.length := List.countP_le_length
theorem pl0_Fx (nb : Nat → List Nat) (c : Int) (n : Nat) : ∀ (f : Nat) (st : List Bool) (t : Bool), st.length = n → (t = true → tru st < f) → (t = false → Fx nb c n st) → Fx nb c n (pl0 nb c n f st t)
  | 0, st, t, hl, h1, h2 => by
    unfold pl0
    cases t
    · exact h2 rfl
    · have := h1 rfl; omega
  | f + 1, st, t, hl, h1, h2 => by
    unfold pl0
    cases t
    · rw [if_neg (by simp)]; exact h2 rfl
    · rw [if_pos rfl]
      have ht := pl1_tru nb c n st false 0 (by omega)
      have h3 := h1 rfl
      refine pl0_Fx nb c n f _ _ (by rw [pl1_len]; exact hl) (fun h => ?_) (fun h => ?_)
      · rcases ht.2 h with e | e
        · cases e
        · omega
      · obtain ⟨_, a2, a3⟩ := pl1_false nb c n st false 0 h
        rw [a2]
        exact fun j hj => a3 j (by omega) (by omega)
def PL (nb : Nat → List Nat) (c : Int) (n : Nat) (st : List Bool) : List Bool := pl0 nb c n (n + 1) st true
theorem PL_len {nb : Nat → List Nat} {c : Int} {n : Nat} {st : List Bool} : (PL nb c n st).length = st.length := pl0_len nb c n _ _ _
theorem PL_Fx (nb : Nat → List Nat) (c : Int) (n : Nat) {st : List Bool} (h : st.length = n) : Fx nb c n (PL nb c n st) :=
  pl0_Fx nb c n _ _ _ h (fun _ => by have := tru_le st; omega) (fun h => by cases h)
/-- None stays. -/
def No (st : List Bool) : Prop := ∀ j : Nat, rdOf false st (j : Int) = false
theorem pl1_No (nb : Nat → List Nat) (c : Int) {st : List Bool} (h : No st) : ∀ (f : Nat) (t : Bool) (i : Nat), pl1 nb c f st t i = (st, t)
  | 0, t, i => rfl
  | f + 1, t, i => by unfold pl1; rw [if_neg (by rw [h i]; simp)]; exact pl1_No nb c h f t (i + 1)
theorem pl0_No (nb : Nat → List Nat) (c : Int) (n : Nat) {st : List Bool} (h : No st) : ∀ (f : Nat) (t : Bool), pl0 nb c n f st t = st
  | 0, t => rfl
  | f + 1, t => by
    unfold pl0
    rw [pl1_No nb c h, pl0_No nb c n h f]; simp
/-- Each that stays gets the number. -/
def mkc (c : Int) (st : List Bool) : Nat → List Int → Nat → List Int
  | 0, core, _ => core
  | f + 1, core, i => mkc c st f (if rdOf false st (i : Int) = true then core.set i c else core) (i + 1)
theorem mkc_len (c : Int) (st : List Bool) : ∀ (f : Nat) (core : List Int) (i : Nat), (mkc c st f core i).length = core.length
  | 0, core, i => rfl
  | f + 1, core, i => by
    unfold mkc
    rw [mkc_len c st f]
    split
    · simp
    · rfl
theorem mkc_No (c : Int) {st : List Bool} (h : No st) : ∀ (f : Nat) (core : List Int) (i : Nat), mkc c st f core i = core
  | 0, core, i => rfl
  | f + 1, core, i => by unfold mkc; rw [if_neg (by rw [h i]; simp)]; exact mkc_No c h f core (i + 1)
/-- The rounds from c on, d of them. -/
def co (nb : Nat → List Nat) (n : Nat) : Nat → List Int → List Bool → Nat → List Int
  | 0, core, _, _ => core
  | d + 1, core, st, c => co nb n d (mkc (c : Int) (PL nb (c : Int) n st) n core 0) (PL nb (c : Int) n st) (c + 1)
theorem co_No (nb : Nat → List Nat) (n : Nat) {st : List Bool} (h : No st) : ∀ (d : Nat) (core : List Int) (c : Nat), co nb n d core st c = core
  | 0, core, c => rfl
  | d + 1, core, c => by
    unfold co PL
    rw [pl0_No nb _ n h, mkc_No _ h, co_No nb n h d]
theorem co_len (nb : Nat → List Nat) (n : Nat) : ∀ (d : Nat) (core : List Int) (st : List Bool) (c : Nat), (co nb n d core st c).length = core.length
  | 0, core, st, c => rfl
  | d + 1, core, st, c => by unfold co; rw [co_len nb n d, mkc_len]
/-- None stays with as many beside it as there are places. -/
theorem nb_few {ns : List S36} {es : List S56} (h : GOk ns es = true) {i : Nat} (hi : i < ns.length) : (nb ns es i).length < ns.length := by
  have hnd : (nb ns es i).Nodup := by
    rw [nb_at es hi]
    unfold List.Nodup
    rw [List.pairwise_map]
    refine (nearL_SA h _ _).imp_of_mem (fun {x y} hx hy hxy e => ?_)
    have e1 := ps_get (near_in h _ _ hx)
    have e2 := ps_get (near_in h _ _ hy)
    have e3 : x = y := by
      refine e1.symm.trans (Eq.trans ?_ e2)
      simp only [e]
    subst e3; omega
  have hni : i ∉ nb ns es i := by
    rw [nb_at es hi]
    intro hm
    obtain ⟨y, hy, e⟩ := List.mem_map.1 hm
    have e1 := ps_get (near_in h _ _ hy)
    have : y = ns[i] := by rw [← e1]; congr 1
    rw [this] at hy
    exact near_irr h _ hy
  have := nodup_le ns.length (i :: nb ns es i) (List.nodup_cons.2 ⟨hni, hnd⟩) (fun x hx => by
    rcases List.mem_cons.1 hx with e | e
    · omega
    · exact nb_lt h i hi x e)
  rw [List.length_cons] at this
  omega
theorem cnt_le (st : List Bool) (os : List Nat) : cnt st os ≤ os.length := List.countP_le_length
theorem rdOf_out {st : List Bool} {j : Nat} (h : st.length ≤ j) : rdOf false st (j : Int) = false := by
  unfold rdOf; rw [Int.toNat_natCast, List.getD_eq_getElem?_getD, List.getElem?_eq_none h]; rfl
theorem PL_none {ns : List S36} {es : List S56} (h : GOk ns es = true) {st : List Bool} (hl : st.length = ns.length) : No (PL (nb ns es) (ns.length : Int) ns.length st) := by
  intro j
  rcases Nat.lt_or_ge j ns.length with c | c
  · cases e : rdOf false (PL (nb ns es) (ns.length : Int) ns.length st) (j : Int)
    · rfl
    · have := PL_Fx (nb ns es) (ns.length : Int) ns.length hl j c e
      have := cnt_le (PL (nb ns es) (ns.length : Int) ns.length st) (nb ns es j)
      have := nb_few h c
      omega
  · exact rdOf_out (by rw [PL_len]; omega)
/-! the first function's walk -/
theorem cs_ok {ns : List S36} {es : List S56} (h : GOk ns es = true) {p : Nat} (hp : p < ns.length) {st : List Bool} (hl : st.length = ns.length) (k : Nat) (hk : 100 < k) : impl_countStays.f k (castL (nb ns es p)) st = some (cnt st (nb ns es p) : Int) := by
  have hlen := nb_len h p
  have key : ∀ (d k j : Nat) (x : Nat), j + d = (nb ns es p).length → x ≤ j → d < k → impl_countStays.l0 k st (x : Int) (castL (nb ns es p)) ((castL (nb ns es p)).length : Int) (j : Int) = some ((x + cnt st ((nb ns es p).drop j) : Nat) : Int) := by
    intro d
    induction d with
    | zero =>
      intro k j x hd hx hk
      obtain ⟨k, rfl⟩ : ∃ q, k = q + 1 := ⟨k - 1, by omega⟩
      rw [impl_countStays.l0]
      rw [castL_len, if_neg (by omega), List.drop_of_length_le (by omega)]; rfl
    | succ d ih =>
      intro k j x hd hx hk
      obtain ⟨k, rfl⟩ : ∃ q, k = q + 1 := ⟨k - 1, by omega⟩
      have hj : j < (nb ns es p).length := by omega
      have ho := nb_lt h p hp _ (List.getElem_mem hj)
      rw [impl_countStays.l0]
      rw [castL_len, if_pos (by omega), if_pos (by omega), if_pos (by omega), rd_cast hj, if_pos (by omega), if_pos (by omega), w1n j (by omega), w1n x (by omega), List.drop_eq_getElem_cons hj]
      have nx := ih k (j + 1)
      rw [castL_len] at nx
      unfold cnt at nx ⊢
      rw [List.countP_cons]
      by_cases c1 : rdOf false st ((nb ns es p)[j] : Int) = true
      · rw [if_pos c1, if_pos c1, nx (x + 1) (by omega) (by omega) (by omega)]
        congr 2; omega
      · rw [if_neg c1, if_neg c1, nx x (by omega) (by omega) (by omega)]; rfl
  have := key (nb ns es p).length k 0 0 (by omega) (by omega) (by omega)
  rw [List.drop_zero] at this
  unfold impl_countStays.f
  simpa using this
theorem ip_l1 {ns : List S36} {es : List S56} (h : GOk ns es = true) (c : Int) (R : Option (Bool × List Bool)) (K : Nat) (hK : 100 < K) : ∀ (d k i : Nat) (st : List Bool) (t : Bool), st.length = ns.length → i + d = ns.length → K + d < k →
    (∀ q, K ≤ q → impl_peel.l0 q (NP ns es) (pl1 (nb ns es) c d st t i).1 c (pl1 (nb ns es) c d st t i).2 = R) → impl_peel.l1 k (NP ns es) st c t (ns.length : Int) (i : Int) = R := by
  obtain ⟨_, _, hn, _⟩ := GOk_parts h
  intro d
  induction d with
  | zero =>
    intro k i st t hl hd hk hR
    obtain ⟨k, rfl⟩ : ∃ q, k = q + 1 := ⟨k - 1, by omega⟩
    rw [impl_peel.l1]
    rw [if_neg (by omega)]
    exact hR k (by omega)
  | succ d ih =>
    intro k i st t hl hd hk hR
    obtain ⟨k, rfl⟩ : ∃ q, k = q + 1 := ⟨k - 1, by omega⟩
    have hi : i < ns.length := by omega
    unfold pl1 at hR
    rw [impl_peel.l1]
    rw [if_pos (by omega), if_pos (by omega), if_pos (by omega), w1n i (by omega), NP_len, Int.toNat_natCast]
    by_cases c1 : rdOf false st (i : Int) = true
    · rw [if_pos c1] at hR ⊢
      rw [if_pos (by omega), NP_at es hi, cs_ok h hi hl k (by omega)]
      simp only [Option.bind_some]
      by_cases c2 : (cnt st (nb ns es i) : Int) < c
      · rw [if_pos c2] at hR ⊢
        exact ih k (i + 1) _ _ (by simpa using hl) (by omega) (by omega) hR
      · rw [if_neg c2] at hR ⊢
        exact ih k (i + 1) _ _ hl (by omega) (by omega) hR
    · rw [if_neg c1] at hR ⊢
      exact ih k (i + 1) _ _ hl (by omega) (by omega) hR
/-- Whether one stays. -/
def so (st : List Bool) : Bool := st.any id
theorem ct_ok (st : List Bool) (hl : st.length ≤ 1000) (k : Nat) (hk : st.length < k) : slices_Contains_bool_bool.f k st true = some (so st) := by
  have key : ∀ (d k j : Nat), j + d = st.length → d < k → ∃ r, slices_Index_bool_bool.l0 k st true (st.length : Int) (j : Int) = some r ∧ decide (r ≥ 0) = (st.drop j).any id := by
    intro d
    induction d with
    | zero =>
      intro k j hd hk
      obtain ⟨k, rfl⟩ : ∃ q, k = q + 1 := ⟨k - 1, by omega⟩
      rw [slices_Index_bool_bool.l0]
      rw [if_neg (by omega), List.drop_of_length_le (by omega)]
      exact ⟨_, rfl, by simp⟩
    | succ d ih =>
      intro k j hd hk
      obtain ⟨k, rfl⟩ : ∃ q, k = q + 1 := ⟨k - 1, by omega⟩
      have hj : j < st.length := by omega
      rw [slices_Index_bool_bool.l0]
      rw [if_pos (by omega), if_pos (by omega), if_pos (by omega), w1n j (by omega), List.drop_eq_getElem_cons hj, rdOf_at hj]
      cases e : st[j]
      · rw [if_neg (by simp)]
        simpa using ih k (j + 1) (by omega) (by omega)
      · rw [if_pos (by simp)]
        exact ⟨_, rfl, by simp⟩
  obtain ⟨r, r1, r2⟩ := key st.length k 0 (by omega) hk
  unfold slices_Contains_bool_bool.f slices_Index_bool_bool.f
  rw [show (0 : Int) = ((0 : Nat) : Int) from rfl, r1]
  simp only [Option.bind_some]
  rw [show ((0 : Nat) : Int) = 0 from rfl, r2, List.drop_zero]; rfl
theorem so_No {st : List Bool} (h : so st = false) : No st := by
  intro j
  rcases Nat.lt_or_ge j st.length with c | c
  · rw [rdOf_at c]
    unfold so at h
    rw [List.any_eq_false] at h
    have := h _ (List.getElem_mem c)
    simpa using this
  · exact rdOf_out c
theorem ip_l0 {ns : List S36} {es : List S56} (h : GOk ns es = true) (c : Int) : ∀ (f k : Nat) (st : List Bool) (t : Bool), st.length = ns.length → (t = true → tru st < f) → 300 + 60 * f < k →
    impl_peel.l0 k (NP ns es) st c t = some (so (pl0 (nb ns es) c ns.length f st t), pl0 (nb ns es) c ns.length f st t) := by
  obtain ⟨_, _, hn, _⟩ := GOk_parts h
  intro f
  induction f with
  | zero =>
    intro k st t hl ht hk
    obtain ⟨k, rfl⟩ : ∃ q, k = q + 1 := ⟨k - 1, by omega⟩
    have : t = false := by
      cases t
      · rfl
      · have := ht rfl; omega
    subst this
    rw [impl_peel.l0]
    rw [if_neg (by simp), ct_ok st (by omega) k (by omega)]; rfl
  | succ f ih =>
    intro k st t hl ht hk
    obtain ⟨k, rfl⟩ : ∃ q, k = q + 1 := ⟨k - 1, by omega⟩
    rw [impl_peel.l0]
    unfold pl0
    cases t
    · rw [if_neg (by simp), if_neg (by simp), ct_ok st (by omega) k (by omega)]; rfl
    · rw [if_pos rfl, if_pos rfl, NP_len]
      have ht2 := pl1_tru (nb ns es) c ns.length st false 0 (by omega)
      have h3 := ht rfl
      refine ip_l1 h c _ (300 + 60 * f + 1) (by omega) ns.length k 0 st false hl (by omega) (by omega) (fun q hq => ?_)
      refine ih q _ _ (by rw [pl1_len]; exact hl) (fun h => ?_) (by omega)
      rcases ht2.2 h with e | e
      · cases e
      · omega
theorem ip_ok {ns : List S36} {es : List S56} (h : GOk ns es = true) (c : Int) {st : List Bool} (hl : st.length = ns.length) (k : Nat) (hk : 3000 < k) :
    impl_peel.f k (NP ns es) st c = some (so (PL (nb ns es) c ns.length st), PL (nb ns es) c ns.length st) := by
  obtain ⟨_, _, hn, _⟩ := GOk_parts h
  unfold impl_peel.f PL
  exact ip_l0 h c _ k st true hl (fun _ => by have := tru_le st; omega) (by omega)
theorem ic_l2 (L : List (List Int)) {n : Nat} (hn : n ≤ 40) (c : Int) (st : List Bool) (hl : st.length = n) (R : Option (List Int)) (K : Nat) : ∀ (d k i : Nat) (core : List Int), core.length = n → i + d = n → K + d < k →
    (∀ q, K ≤ q → impl_WalkCore.l1 q L (mkc c st d core i) st (wrap64 (c + 1)) = R) → impl_WalkCore.l2 k L core st c (n : Int) (i : Int) = R := by
  intro d
  induction d with
  | zero =>
    intro k i core hc hd hk hR
    obtain ⟨k, rfl⟩ : ∃ q, k = q + 1 := ⟨k - 1, by omega⟩
    rw [impl_WalkCore.l2]
    rw [if_neg (by omega)]
    exact hR k (by omega)
  | succ d ih =>
    intro k i core hc hd hk hR
    obtain ⟨k, rfl⟩ : ∃ q, k = q + 1 := ⟨k - 1, by omega⟩
    unfold mkc at hR
    rw [impl_WalkCore.l2]
    rw [if_pos (by omega), if_pos (by omega), if_pos (by omega), w1n i (by omega), Int.toNat_natCast]
    by_cases c1 : rdOf false st (i : Int) = true
    · rw [if_pos c1] at hR ⊢
      rw [if_pos (by omega)]
      exact ih k (i + 1) _ (by simpa using hc) (by omega) (by omega) hR
    · rw [if_neg c1] at hR ⊢
      exact ih k (i + 1) _ hc (by omega) (by omega) hR
theorem ic_l1 {ns : List S36} {es : List S56} (h : GOk ns es = true) : ∀ (d k c : Nat) (core : List Int) (st : List Bool), core.length = ns.length → st.length = ns.length → c + d = ns.length → 4000 + 60 * d < k →
    impl_WalkCore.l1 k (NP ns es) core st (c : Int) = some (co (nb ns es) ns.length d core st c) := by
  obtain ⟨_, _, hn, _⟩ := GOk_parts h
  intro d
  induction d with
  | zero =>
    intro k c core st hc hl hd hk
    obtain ⟨k, rfl⟩ : ∃ q, k = q + 1 := ⟨k - 1, by omega⟩
    obtain rfl : c = ns.length := by omega
    rw [impl_WalkCore.l1, ip_ok h _ hl k (by omega)]
    simp only [Option.bind_some]
    have : so (PL (nb ns es) (ns.length : Int) ns.length st) = false := by
      have hN := PL_none h hl
      unfold so
      rw [List.any_eq_false]
      intro x hx
      obtain ⟨j, hj, rfl⟩ := List.getElem_of_mem hx
      have := hN j
      rw [rdOf_at hj] at this
      simp [this]
    rw [if_neg (by rw [this]; simp)]
    rfl
  | succ d ih =>
    intro k c core st hc hl hd hk
    obtain ⟨k, rfl⟩ : ∃ q, k = q + 1 := ⟨k - 1, by omega⟩
    rw [impl_WalkCore.l1, ip_ok h _ hl k (by omega)]
    simp only [Option.bind_some]
    have hpl : (PL (nb ns es) (c : Int) ns.length st).length = ns.length := by rw [PL_len]; exact hl
    unfold co
    cases e : so (PL (nb ns es) (c : Int) ns.length st)
    · have hN := so_No e
      rw [if_neg (by simp), mkc_No _ hN, co_No _ _ hN]
    · rw [if_pos rfl, hc]
      refine ic_l2 _ hn _ _ hpl _ (4000 + 60 * d + 1) ns.length k 0 core hc (by omega) (by omega) (fun q hq => ?_)
      rw [w1n c (by omega)]
      exact ih q (c + 1) _ _ (by rw [mkc_len]; exact hc) hpl (by omega) (by omega)
theorem ic_l0 (L : List (List Int)) (core : List Int) {n : Nat} (hn : n ≤ 40) (R : Option (List Int)) (K : Nat)
    (hR : ∀ q, K ≤ q → impl_WalkCore.l1 q L core (List.replicate n true) 1 = R) : ∀ (d k i : Nat) (st : List Bool), st.length = n → i + d = n → st.take i = List.replicate i true → K + d < k →
    impl_WalkCore.l0 k L core st (n : Int) (i : Int) = R := by
  intro d
  induction d with
  | zero =>
    intro k i st hl hd ht hk
    obtain ⟨k, rfl⟩ : ∃ q, k = q + 1 := ⟨k - 1, by omega⟩
    rw [impl_WalkCore.l0]
    rw [if_neg (by omega)]
    rw [List.take_of_length_le (by omega)] at ht
    rw [ht, show i = n by omega]
    exact hR k (by omega)
  | succ d ih =>
    intro k i st hl hd ht hk
    obtain ⟨k, rfl⟩ : ∃ q, k = q + 1 := ⟨k - 1, by omega⟩
    rw [impl_WalkCore.l0]
    rw [if_pos (by omega), if_pos (by omega), if_pos (by omega), w1n i (by omega), Int.toNat_natCast]
    refine ih k (i + 1) _ (by simpa using hl) (by omega) ?_ (by omega)
    rw [List.take_succ_eq_append_getElem (by simp; omega), List.take_set_of_le (Nat.le_refl _), List.getElem_set_self, ht, List.replicate_succ']
/-- The numbers of all places. -/
def Cr (ns : List S36) (es : List S56) : List Int := if GOk ns es = true then co (nb ns es) ns.length (ns.length - 1) (List.replicate ns.length 0) (List.replicate ns.length true) 1 else []
theorem Cr_len (ns : List S36) (es : List S56) : (Cr ns es).length ≤ ns.length := by
  unfold Cr; split
  · rw [co_len]; simp
  · simp
theorem iCr (ns : List S36) (es : List S56) (hn : ns.length ≤ 2097152) (hm : es.length ≤ 2097152) (k : Nat) (hk : 2 * ns.length + 2 * es.length + 20000 < k) : impl_WalkCore.f k ns es = some (Cr ns es) := by
  obtain ⟨k, rfl⟩ : ∃ z, k = z + 1 := ⟨k - 1, by omega⟩
  unfold impl_WalkCore.f Cr
  rw [iGraphOk_ok ns es hn hm (k + 1) (by omega)]
  simp only [Option.bind_some]
  by_cases h : GOk ns es = true
  · obtain ⟨_, _, hn2, _⟩ := GOk_parts h
    rw [if_pos h, if_pos h, impl_WalkCore.j0]
    by_cases h0 : ns.length = 0
    · rw [if_pos (by rw [h0]; rfl), h0]; rfl
    · rw [if_neg (by rw [beq_iff_eq]; omega), np_ok h k (by omega)]
      simp only [Option.bind_some]
      rw [NP_len, if_pos (by omega), if_pos (by omega), if_pos (by omega), Int.toNat_natCast, List.length_replicate]
      refine ic_l0 _ _ hn2 _ 9000 (fun q hq => ?_) ns.length k 0 _ (by simp) (by omega) (by simp) (by omega)
      exact ic_l1 h (ns.length - 1) q 1 _ _ (by simp) (by simp) (by omega) (by omega)
  · rw [if_neg h, if_neg h, impl_WalkCore.j0, if_pos rfl]
/-! the other function's walk -/
theorem sf_ok {ns : List S36} {es : List S56} (h : GOk ns es = true) {p : Nat} (hp : p < ns.length) {st : List Bool} (hl : st.length = ns.length) (k : Nat) (hk : 4000 < k) : spec_l3Left.f k ns es st ns[p].f0 ns[p].f1 = some (cnt st (nb ns es p) : Int) := by
  obtain ⟨_, _, hn, hm⟩ := GOk_parts h
  have hlen := nearL_len es ns[p].f0 ns[p].f1
  have key : ∀ (d k j : Nat) (x : Nat), j + d = (nearL es ns[p].f0 ns[p].f1).length → x ≤ j → 100 + d < k → spec_l3Left.l0 k st (nearL es ns[p].f0 ns[p].f1) (x : Int) (j : Int) ns es = some ((x + cnt st (((nearL es ns[p].f0 ns[p].f1).drop j).map (ps ns)) : Nat) : Int) := by
    intro d
    induction d with
    | zero =>
      intro k j x hd hx hk
      obtain ⟨k, rfl⟩ : ∃ q, k = q + 1 := ⟨k - 1, by omega⟩
      rw [spec_l3Left.l0]
      rw [if_neg (by omega), List.drop_of_length_le (by omega)]; rfl
    | succ d ih =>
      intro k j x hd hx hk
      obtain ⟨k, rfl⟩ : ∃ q, k = q + 1 := ⟨k - 1, by omega⟩
      have hj : j < (nearL es ns[p].f0 ns[p].f1).length := by omega
      have hy := near_in h _ _ (List.getElem_mem hj)
      have hpl := ps_lt hy
      rw [spec_l3Left.l0]
      rw [if_pos (by omega), if_pos (by omega), rdT_at hj, l2At_ok ns es (by omega) _ k (by omega), pz_in hy]
      simp only [Option.bind_some]
      rw [if_pos (by omega), if_pos (by omega), w1n j (by omega), w1n x (by omega), List.drop_eq_getElem_cons hj, List.map_cons]
      unfold cnt at ih ⊢
      rw [List.countP_cons]
      by_cases c1 : rdOf false st (ps ns (nearL es ns[p].f0 ns[p].f1)[j] : Int) = true
      · rw [if_pos c1, if_pos c1, ih k (j + 1) (x + 1) (by omega) (by omega) (by omega)]
        congr 2; omega
      · rw [if_neg c1, if_neg c1, ih k (j + 1) x (by omega) (by omega) (by omega)]; rfl
  have := key (nearL es ns[p].f0 ns[p].f1).length k 0 0 (by omega) (by omega) (by omega)
  rw [List.drop_zero, ← nb_at es hp] at this
  unfold spec_l3Left.f
  rw [sl2Near ns es h _ _ k (by omega)]
  simpa using this
theorem sp_l1 {ns : List S36} {es : List S56} (h : GOk ns es = true) (c : Int) (R : Option (List Bool)) (K : Nat) (hK : 4000 < K) : ∀ (d k i : Nat) (st : List Bool) (t : Bool), st.length = ns.length → i + d = ns.length → K + d < k →
    (∀ q, K ≤ q → spec_l3Peel.l0 q (pl1 (nb ns es) c d st t i).1 c (pl1 (nb ns es) c d st t i).2 ns es = R) → spec_l3Peel.l1 k st c t (i : Int) ns es = R := by
  obtain ⟨_, _, hn, _⟩ := GOk_parts h
  intro d
  induction d with
  | zero =>
    intro k i st t hl hd hk hR
    obtain ⟨k, rfl⟩ : ∃ q, k = q + 1 := ⟨k - 1, by omega⟩
    rw [spec_l3Peel.l1]
    rw [if_neg (by omega)]
    exact hR k (by omega)
  | succ d ih =>
    intro k i st t hl hd hk hR
    obtain ⟨k, rfl⟩ : ∃ q, k = q + 1 := ⟨k - 1, by omega⟩
    have hi : i < ns.length := by omega
    unfold pl1 at hR
    rw [spec_l3Peel.l1]
    rw [if_pos (by omega), if_pos (by omega), w1n i (by omega), Int.toNat_natCast]
    by_cases c1 : rdOf false st (i : Int) = true
    · rw [if_pos c1] at hR ⊢
      rw [if_pos (by omega), rdT_at hi, sf_ok h hi hl k (by omega)]
      simp only [Option.bind_some]
      by_cases c2 : (cnt st (nb ns es i) : Int) < c
      · rw [if_pos c2] at hR ⊢
        exact ih k (i + 1) _ _ (by simpa using hl) (by omega) (by omega) hR
      · rw [if_neg c2] at hR ⊢
        exact ih k (i + 1) _ _ hl (by omega) (by omega) hR
    · rw [if_neg c1] at hR ⊢
      exact ih k (i + 1) _ _ hl (by omega) (by omega) hR
theorem sp_l0 {ns : List S36} {es : List S56} (h : GOk ns es = true) (c : Int) : ∀ (f k : Nat) (st : List Bool) (t : Bool), st.length = ns.length → (t = true → tru st < f) → 5000 + 60 * f < k →
    spec_l3Peel.l0 k st c t ns es = some (pl0 (nb ns es) c ns.length f st t) := by
  obtain ⟨_, _, hn, _⟩ := GOk_parts h
  intro f
  induction f with
  | zero =>
    intro k st t hl ht hk
    obtain ⟨k, rfl⟩ : ∃ q, k = q + 1 := ⟨k - 1, by omega⟩
    have : t = false := by
      cases t
      · rfl
      · have := ht rfl; omega
    subst this
    rw [spec_l3Peel.l0]
    rw [if_neg (by simp)]; rfl
  | succ f ih =>
    intro k st t hl ht hk
    obtain ⟨k, rfl⟩ : ∃ q, k = q + 1 := ⟨k - 1, by omega⟩
    rw [spec_l3Peel.l0]
    unfold pl0
    cases t
    · rw [if_neg (by simp), if_neg (by simp)]
    · rw [if_pos rfl, if_pos rfl]
      have ht2 := pl1_tru (nb ns es) c ns.length st false 0 (by omega)
      have h3 := ht rfl
      refine sp_l1 h c _ (5000 + 60 * f + 1) (by omega) ns.length k 0 st false hl (by omega) (by omega) (fun q hq => ?_)
      refine ih q _ _ (by rw [pl1_len]; exact hl) (fun h => ?_) (by omega)
      rcases ht2.2 h with e | e
      · cases e
      · omega
theorem sp_ok {ns : List S36} {es : List S56} (h : GOk ns es = true) (c : Int) {st : List Bool} (hl : st.length = ns.length) (k : Nat) (hk : 8000 < k) :
    spec_l3Peel.f k ns es st c = some (PL (nb ns es) c ns.length st) := by
  obtain ⟨_, _, hn, _⟩ := GOk_parts h
  unfold spec_l3Peel.f PL
  exact sp_l0 h c _ k st true hl (fun _ => by have := tru_le st; omega) (by omega)
theorem sc_l2 (ns : List S36) (es : List S56) (hn : ns.length ≤ 40) (c : Int) (st : List Bool) (hl : st.length = ns.length) (R : Option (List Int)) (K : Nat) : ∀ (d k i : Nat) (core : List Int), core.length = ns.length → i + d = ns.length → K + d < k →
    (∀ q, K ≤ q → spec_WalkCore.l1 q (mkc c st d core i) st (wrap64 (c + 1)) ns es = R) → spec_WalkCore.l2 k core st c (i : Int) ns es = R := by
  intro d
  induction d with
  | zero =>
    intro k i core hc hd hk hR
    obtain ⟨k, rfl⟩ : ∃ q, k = q + 1 := ⟨k - 1, by omega⟩
    rw [spec_WalkCore.l2]
    rw [if_neg (by omega)]
    exact hR k (by omega)
  | succ d ih =>
    intro k i core hc hd hk hR
    obtain ⟨k, rfl⟩ : ∃ q, k = q + 1 := ⟨k - 1, by omega⟩
    unfold mkc at hR
    rw [spec_WalkCore.l2]
    rw [if_pos (by omega), if_pos (by omega), w1n i (by omega), Int.toNat_natCast]
    by_cases c1 : rdOf false st (i : Int) = true
    · rw [if_pos c1] at hR ⊢
      rw [if_pos (by omega)]
      exact ih k (i + 1) _ (by simpa using hc) (by omega) (by omega) hR
    · rw [if_neg c1] at hR ⊢
      exact ih k (i + 1) _ hc (by omega) (by omega) hR
theorem sc_l1 {ns : List S36} {es : List S56} (h : GOk ns es = true) : ∀ (d k c : Nat) (core : List Int) (st : List Bool), core.length = ns.length → st.length = ns.length → c + d = ns.length → 9000 + 60 * d < k →
    spec_WalkCore.l1 k core st (c : Int) ns es = some (co (nb ns es) ns.length d core st c) := by
  obtain ⟨_, _, hn, _⟩ := GOk_parts h
  intro d
  induction d with
  | zero =>
    intro k c core st hc hl hd hk
    obtain ⟨k, rfl⟩ : ∃ q, k = q + 1 := ⟨k - 1, by omega⟩
    rw [spec_WalkCore.l1]
    rw [if_neg (by omega)]; rfl
  | succ d ih =>
    intro k c core st hc hl hd hk
    obtain ⟨k, rfl⟩ : ∃ q, k = q + 1 := ⟨k - 1, by omega⟩
    rw [spec_WalkCore.l1]
    rw [if_pos (by omega), sp_ok h _ hl k (by omega)]
    simp only [Option.bind_some]
    have hpl : (PL (nb ns es) (c : Int) ns.length st).length = ns.length := by rw [PL_len]; exact hl
    unfold co
    refine sc_l2 ns es hn _ _ hpl _ (9000 + 60 * d + 1) ns.length k 0 core hc (by omega) (by omega) (fun q hq => ?_)
    rw [w1n c (by omega)]
    exact ih q (c + 1) _ _ (by rw [mkc_len]; exact hc) hpl (by omega) (by omega)
theorem sc_l0 (ns : List S36) (es : List S56) (hn : ns.length ≤ 40) (R : Option (List Int)) (K : Nat)
    (hR : ∀ q, K ≤ q → spec_WalkCore.l1 q (List.replicate ns.length 0) (List.replicate ns.length true) 1 ns es = R) : ∀ (d k i : Nat), i + d = ns.length → K + d < k →
    spec_WalkCore.l0 k (List.replicate i 0) (List.replicate i true) (i : Int) ns es = R := by
  intro d
  induction d with
  | zero =>
    intro k i hd hk
    obtain ⟨k, rfl⟩ : ∃ q, k = q + 1 := ⟨k - 1, by omega⟩
    rw [spec_WalkCore.l0]
    rw [if_neg (by omega), show i = ns.length by omega]
    exact hR k (by omega)
  | succ d ih =>
    intro k i hd hk
    obtain ⟨k, rfl⟩ : ∃ q, k = q + 1 := ⟨k - 1, by omega⟩
    rw [spec_WalkCore.l0]
    rw [if_pos (by omega), List.length_replicate, List.length_replicate, if_pos (by omega), if_pos (by omega), w1n i (by omega), ← List.replicate_succ', ← List.replicate_succ']
    exact ih k (i + 1) (by omega) (by omega)
theorem sCr (ns : List S36) (es : List S56) (hn : ns.length ≤ 2097152) (hm : es.length ≤ 2097152) (k : Nat) (hk : 2 * ns.length + 2 * es.length + 20000 < k) : spec_WalkCore.f k ns es = some (Cr ns es) := by
  unfold spec_WalkCore.f Cr
  simp only [Option.bind_some]
  rw [sGraphOk_ok ns es hn hm k (by omega)]
  simp only [Option.bind_some]
  by_cases h : GOk ns es = true
  · obtain ⟨_, _, hn2, _⟩ := GOk_parts h
    rw [if_pos h, if_pos h]
    refine sc_l0 ns es hn2 _ 15000 (fun q hq => ?_) ns.length k 0 (by omega) (by omega)
    by_cases h0 : ns.length = 0
    · obtain ⟨q, rfl⟩ : ∃ z, q = z + 1 := ⟨q - 1, by omega⟩
      rw [spec_WalkCore.l1]
      rw [if_neg (by omega), h0]; rfl
    · exact sc_l1 h (ns.length - 1) q 1 _ _ (by simp) (by simp) (by omega) (by omega)
  · rw [if_neg h, if_neg h]

theorem markN_l0 (n : Nat) (a : Int) (ha : 0 ≤ a) (hm : a + 2 * n ≤ 100000000) : ∀ (d k : Nat) (ys : List S36) (i : Nat), ys.length = n → i + d = n → (∀ j, j < i → ys[j]? = some ⟨a + 2 * (j : Int), a + 2 * (j : Int) + 1⟩) → d < k →
    ∃ zs, laws_markNodeS.l0 k ys (a + 2 * i) i = some (a + 2 * n, zs) ∧ zs.length = n ∧ ∀ j : Nat, j < n → zs[j]? = some ⟨a + 2 * (j : Int), a + 2 * (j : Int) + 1⟩ := by
  intro d
  induction d with
  | zero =>
    intro k ys i hl hd hy hk
    obtain ⟨k, rfl⟩ : ∃ m, k = m + 1 := ⟨k - 1, by omega⟩
    simp only [laws_markNodeS.l0]
    rw [if_neg (by omega)]
    exact ⟨ys, by rw [show i = n by omega], hl, fun j hj => hy j (by omega)⟩
  | succ d ih =>
    intro k ys i hl hd hy hk
    obtain ⟨k, rfl⟩ : ∃ m, k = m + 1 := ⟨k - 1, by omega⟩
    simp only [laws_markNodeS.l0]
    rw [if_pos (by omega), if_pos (by omega)]
    simp only [Option.bind_some, Int.toNat_natCast]
    have e1 : (rd_T36 (ys.set i ⟨a + 2 * (i : Int), (rd_T36 ys i).f1⟩) i).f0 = a + 2 * (i : Int) := by
      unfold rd_T36
      rw [Int.toNat_natCast, List.getD_eq_getElem?_getD, List.getElem?_set_self (by omega)]; rfl
    rw [e1, List.set_set, w64 (x := a + 2 * (i : Int) + 1) (by omega), w64 (x := a + 2 * (i : Int) + 1 + 1) (by omega), w64 (x := (i : Int) + 1) (by omega)]
    have := ih k (ys.set i ⟨a + 2 * (i : Int), a + 2 * (i : Int) + 1⟩) (i + 1) (by simpa using hl) (by omega) (fun j hj => by
      by_cases e : j = i
      · subst e; rw [List.getElem?_set_self (by omega)]
      · rw [List.getElem?_set_ne (by omega)]; exact hy j (by omega)) (by omega)
    rw [show a + 2 * ((i + 1 : Nat) : Int) = a + 2 * (i : Int) + 1 + 1 by omega, show ((i + 1 : Nat) : Int) = (i : Int) + 1 by omega] at this
    exact this

/-- The marks of an edge. -/
def mE (a : Int) : S56 := ⟨a, ⟨a + 1, a + 2⟩, ⟨a + 3, a + 4⟩⟩
theorem rdE_set (ys : List S56) (i : Nat) (x : S56) (h : i < ys.length) : rd_T56 (ys.set i x) (i : Int) = x := by
  unfold rd_T56
  rw [Int.toNat_natCast, List.getD_eq_getElem?_getD, List.getElem?_set_self h]; rfl
theorem markE_l0 (n : Nat) (a : Int) (ha : 0 ≤ a) (hm : a + 5 * n ≤ 100000000) : ∀ (d k : Nat) (ys : List S56) (i : Nat), ys.length = n → i + d = n → (∀ j, j < i → ys[j]? = some (mE (a + 5 * (j : Int)))) → d < k →
    ∃ zs, laws_markEdgeS.l0 k ys (a + 5 * i) i = some (a + 5 * n, zs) ∧ zs.length = n ∧ ∀ j : Nat, j < n → zs[j]? = some (mE (a + 5 * (j : Int))) := by
  intro d
  induction d with
  | zero =>
    intro k ys i hl hd hy hk
    obtain ⟨k, rfl⟩ : ∃ m, k = m + 1 := ⟨k - 1, by omega⟩
    simp only [laws_markEdgeS.l0]
    rw [if_neg (by omega)]
    exact ⟨ys, by rw [show i = n by omega], hl, fun j hj => hy j (by omega)⟩
  | succ d ih =>
    intro k ys i hl hd hy hk
    obtain ⟨k, rfl⟩ : ∃ m, k = m + 1 := ⟨k - 1, by omega⟩
    simp only [laws_markEdgeS.l0]
    rw [if_pos (by omega), if_pos (by omega)]
    simp only [Option.bind_some, Int.toNat_natCast, List.set_set, rdE_set ys i _ (by omega)]
    rw [w64 (x := a + 5 * (i : Int) + 1) (by omega), w64 (x := a + 5 * (i : Int) + 1 + 1) (by omega), w64 (x := a + 5 * (i : Int) + 1 + 1 + 1) (by omega), w64 (x := a + 5 * (i : Int) + 1 + 1 + 1 + 1) (by omega), w64 (x := a + 5 * (i : Int) + 1 + 1 + 1 + 1 + 1) (by omega), w64 (x := (i : Int) + 1) (by omega)]
    have := ih k (ys.set i (mE (a + 5 * (i : Int)))) (i + 1) (by simpa using hl) (by omega) (fun j hj => by
      by_cases e : j = i
      · subst e; rw [List.getElem?_set_self (by omega)]
      · rw [List.getElem?_set_ne (by omega)]; exact hy j (by omega)) (by omega)
    rw [show a + 5 * ((i + 1 : Nat) : Int) = a + 5 * (i : Int) + 1 + 1 + 1 + 1 + 1 by omega, show ((i + 1 : Nat) : Int) = (i : Int) + 1 by omega] at this
    have e : mE (a + 5 * (i : Int)) = ⟨a + 5 * (i : Int), ⟨a + 5 * (i : Int) + 1, a + 5 * (i : Int) + 1 + 1⟩, ⟨a + 5 * (i : Int) + 1 + 1 + 1, a + 5 * (i : Int) + 1 + 1 + 1 + 1⟩⟩ := by
      unfold mE; rw [show a + 5 * (i : Int) + 2 = a + 5 * (i : Int) + 1 + 1 by omega, show a + 5 * (i : Int) + 3 = a + 5 * (i : Int) + 1 + 1 + 1 by omega, show a + 5 * (i : Int) + 4 = a + 5 * (i : Int) + 1 + 1 + 1 + 1 by omega]
    rw [e] at this
    exact this

theorem markGraph_tot (ns : List S36) (es : List S56) (hn : ns.length ≤ 2097152) (hm : es.length ≤ 2097152) (k : Nat) (hk : ns.length + es.length < k) : ∃ e zs ys, laws_markGraph.f k ns es 1 = some (e, zs, ys) ∧ 0 ≤ e := by
  obtain ⟨zs, h1, h2, h3⟩ := markN_l0 ns.length 1 (by omega) (by omega) ns.length k ns 0 rfl (by omega) (fun j hj => by omega) (by omega)
  obtain ⟨ys, g1, g2, g3⟩ := markE_l0 es.length (1 + 2 * ns.length) (by omega) (by omega) es.length k es 0 rfl (by omega) (fun j hj => by omega) (by omega)
  refine ⟨1 + 2 * (ns.length : Int) + 5 * (es.length : Int), zs, ys, ?_, by omega⟩
  unfold laws_markGraph.f laws_markNodeS.f laws_markEdgeS.f
  simp at h1 g1
  rw [h1]; simp only [Option.bind_some]; rw [g1]; rfl

theorem markInt_l0 (n : Nat) (a : Int) (ha : 0 ≤ a) (hm : a + n ≤ 100000000) : ∀ (d k : Nat) (ys : List Int) (i : Nat), ys.length = n → i + d = n → (∀ j, j < i → ys[j]? = some (a + (j : Int))) → d < k →
    ∃ zs, laws_markIntS.l0 k ys (a + i) i = some (a + n, zs) ∧ zs.length = n ∧ ∀ j : Nat, j < n → zs[j]? = some (a + (j : Int)) := by
  intro d
  induction d with
  | zero =>
    intro k ys i hl hd hy hk
    obtain ⟨k, rfl⟩ : ∃ m, k = m + 1 := ⟨k - 1, by omega⟩
    simp only [laws_markIntS.l0]
    rw [if_neg (by omega)]
    exact ⟨ys, by rw [show i = n by omega], hl, fun j hj => hy j (by omega)⟩
  | succ d ih =>
    intro k ys i hl hd hy hk
    obtain ⟨k, rfl⟩ : ∃ m, k = m + 1 := ⟨k - 1, by omega⟩
    simp only [laws_markIntS.l0]
    rw [if_pos (by omega), if_pos (by omega), w64 (x := a + (i : Int) + 1) (by omega), w64 (x := (i : Int) + 1) (by omega), Int.toNat_natCast]
    have := ih k (ys.set i (a + (i : Int))) (i + 1) (by simpa using hl) (by omega) (fun j hj => by
      by_cases e : j = i
      · subst e; rw [List.getElem?_set_self (by omega)]
      · rw [List.getElem?_set_ne (by omega)]; exact hy j (by omega)) (by omega)
    rw [show a + ((i + 1 : Nat) : Int) = a + (i : Int) + 1 by omega, show ((i + 1 : Nat) : Int) = (i : Int) + 1 by omega] at this
    exact this
theorem heldInt_l0 (zs : List Int) (a : Int) (ha : 0 ≤ a) (hm : a + zs.length ≤ 100000000) (hz : ∀ j : Nat, j < zs.length → zs[j]? = some (a + (j : Int))) : ∀ (d k : Nat) (i : Nat), i + d = zs.length → d < k → laws_heldIntS.l0 k zs (a + i) i = some (a + zs.length) := by
  intro d
  induction d with
  | zero =>
    intro k i hd hk
    obtain ⟨k, rfl⟩ : ∃ m, k = m + 1 := ⟨k - 1, by omega⟩
    simp only [laws_heldIntS.l0]
    rw [if_neg (by omega), show i = zs.length by omega]
  | succ d ih =>
    intro k i hd hk
    obtain ⟨k, rfl⟩ : ∃ m, k = m + 1 := ⟨k - 1, by omega⟩
    simp only [laws_heldIntS.l0]
    have er : rd zs (i : Int) = a + (i : Int) := by unfold rd; rw [Int.toNat_natCast, List.getD_eq_getElem?_getD, hz i (by omega)]; rfl
    rw [if_pos (by omega), if_pos (by omega), er, if_pos rfl, w64 (x := a + (i : Int) + 1) (by omega), w64 (x := (i : Int) + 1) (by omega)]
    have := ih k (i + 1) (by omega) (by omega)
    rw [show a + ((i + 1 : Nat) : Int) = a + (i : Int) + 1 by omega, show ((i + 1 : Nat) : Int) = (i : Int) + 1 by omega] at this
    exact this
/-- What is laid as marks is held. -/
theorem markInt_ok (xs : List Int) (hm : xs.length ≤ 1048576) (k : Nat) (hk : xs.length < k) : ∃ zs, laws_markIntS.f k xs 1 = some (1 + (xs.length : Int), zs) ∧ ∀ q, xs.length < q → laws_heldIntS.f q zs 1 = some (1 + (xs.length : Int)) := by
  obtain ⟨zs, h1, h2, h3⟩ := markInt_l0 xs.length 1 (by omega) (by omega) xs.length k xs 0 rfl (by omega) (fun j hj => by omega) hk
  refine ⟨zs, by unfold laws_markIntS.f; simpa using h1, fun q hq => ?_⟩
  have h4 := heldInt_l0 zs 1 (by omega) (by omega) (fun j hj => h3 j (by omega)) zs.length q 0 (by omega) (by omega)
  unfold laws_heldIntS.f
  rw [h2] at h4
  simpa using h4

theorem eqInt_self (xs : List Int) (hm : xs.length ≤ 1048576) (k : Nat) (hk : xs.length < k) : laws_eqIntS.f k xs xs = some true := by
  unfold laws_eqIntS.f
  rw [if_pos rfl]
  have h := loop_all (l := fun k i => laws_eqIntS.l0 k xs xs i) (p := fun _ => true) (n := xs.length) (fun k i h0 h1 => by
    show laws_eqIntS.l0 (k + 1) xs xs i = _
    simp only [laws_eqIntS.l0, if_true]
    by_cases h : i < (xs.length : Int)
    · rw [if_pos h, if_pos h, if_pos h0, if_pos h, w64 (x := i + 1) (by omega)]
    · rw [if_neg h, if_neg h]) xs.length k 0 (by omega) (by omega) hk
  rw [h]; simp

theorem FnExactWalkCore : laws_FnExactWalkCore.Pure := by
  intro a b ma _ mb _
  obtain ⟨k, hk⟩ : ∃ k, k = 2 * a.length + 2 * b.length + 40000 := ⟨_, rfl⟩
  refine ⟨k + 1, ?_⟩
  unfold laws_FnExactWalkCore.f
  obtain ⟨r, hr, hr1, hr2⟩ := szGraph_ok a b ma mb 1048576 (by omega) (by omega)
  rw [hr]; simp only [Option.bind_some]
  by_cases h : r < 0
  · rw [if_pos h]
  rw [if_neg h]
  have e1 := hr2 (by omega)
  have la : (a.map cvN).length = a.length := by simp
  have lb : (b.map cvE).length = b.length := by simp
  have iN := fun (q : Nat) (hq : k ≤ q) => iCr (a.map cvN) (b.map cvE) (by omega) (by omega) q (by omega)
  have sN := sCr (a.map cvN) (b.map cvE) (by omega) (by omega) (k + 1) (by omega)
  have hl := Cr_len (a.map cvN) (b.map cvE)
  generalize Cr (a.map cvN) (b.map cvE) = N at iN sN hl
  have eq0 : ∀ q, k ≤ q → laws_eqIntS.f q N N = some true := fun q hq => eqInt_self N (by omega) q (by omega)
  have eq1 := eqGraph_self (a.map cvN) (b.map cvE) (by omega) (by omega) (k + 1) (by omega)
  obtain ⟨m1, z1, y1, hm1, hm2⟩ := markGraph_tot (a.map cvN) (b.map cvE) (by omega) (by omega) (k + 1) (by omega)
  obtain ⟨z2, hn1, hn3⟩ := markInt_ok N (by omega) k (by omega)
  simp only [toGraph_ok a b (by omega) (by omega) (k + 1) (by omega), Option.bind_some, sN, iN (k + 1) (by omega), eq0 (k + 1) (by omega), eq1, if_true, hm1, Bool.not_true]
  rw [if_neg (by omega)]
  simp only [laws_FnExactWalkCore.j0, Bool.false_eq_true, if_false, hn1, Option.bind_some, hn3 k (by omega), toGraph_ok a b (by omega) (by omega) k (by omega), iN k (by omega), eq0 k (by omega), if_true]
  rw [if_neg (by omega)]
  rw [if_neg (by omega)]

end Go.Proofs.Ytohmemckdogljaa.Pure
