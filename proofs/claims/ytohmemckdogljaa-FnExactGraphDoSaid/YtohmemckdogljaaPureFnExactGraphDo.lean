/- The plain law behind FnExactGraphDo: at every graph and operation both functions tell the same graph and code, in memory of its own. -/
import Derived.Test.YtohmemckdogljaaQFnExactGraphDoOpen
namespace Go.Proofs.Ytohmemckdogljaa.Pure
open Go.RowKit Go.Proofs.Ytohmemckdogljaa.QFnExactGraphDo Go.Proofs.YtohmemckdogljaaW.PrintWords Go.Proofs.YtohmemckdogljaaW.PrintLast
set_option linter.unusedSimpArgs false
set_option linter.unusedVariables false

open Go.Proofs.Ytohmemckdogljaa.Bl
theorem w64 {x : Int} (h : -9223372036854775808 ≤ x ∧ x ≤ 9223372036854775807) : wrap64 x = x := by unfold wrap64; omega
theorem rdB {b : List Int} (hb : ∀ x ∈ b, 0 ≤ x ∧ x ≤ 255) (i : Int) : 0 ≤ rd b i ∧ rd b i ≤ 255 := by
  unfold rd
  rw [List.getD_eq_getElem?_getD]
  cases h : b[i.toNat]? with
  | none => simp
  | some v => exact hb v (List.mem_of_getElem? h)
theorem u8B {l : List Int} (h : ∀ x ∈ l, (Lit.int .u8 x).wf = true) : ∀ x ∈ l, 0 ≤ x ∧ x ≤ 255 := fun x hx => by
  have := h x hx
  simp [Lit.wf, IntKind.min, IntKind.max, IntKind.signed, IntKind.bits] at this
  omega

/-- A loop over the places from i on that stops at the first place where p does not hold. -/
theorem loop_all {l : Nat → Int → Option Bool} {p : Int → Bool} {n : Int} (h : ∀ k i, 0 ≤ i → i ≤ n → l (k + 1) i = if i < n then (if p i = true then l k (i + 1) else some false) else some true) :
    ∀ (d k : Nat) (i : Int), 0 ≤ i → i + d = n → d < k → l k i = some ((List.range d).all fun j => p (i + j)) := by
  intro d
  induction d with
  | zero =>
    intro k i h0 hd hk
    obtain ⟨k, rfl⟩ : ∃ m, k = m + 1 := ⟨k - 1, by omega⟩
    rw [h k i h0 (by omega), if_neg (by omega)]; rfl
  | succ d ih =>
    intro k i h0 hd hk
    obtain ⟨k, rfl⟩ : ∃ m, k = m + 1 := ⟨k - 1, by omega⟩
    rw [h k i h0 (by omega), if_pos (by omega), List.range_succ_eq_map, List.all_cons, List.all_map]
    by_cases hp : p i = true
    · rw [if_pos hp, ih k (i + 1) (by omega) (by omega) (by omega)]
      have e : ∀ j : Nat, i + 1 + (j : Int) = i + ((j + 1 : Nat) : Int) := fun j => by omega
      simp [hp, Function.comp_def, e]
    · rw [if_neg hp]; simp at hp; simp [hp]
/-- A loop that lays f of each place, from i on, into a row as long. -/
theorem loop_set {α : Type} {l : Nat → List α → Int → Option (List α)} {f : Int → α} {n : Nat} (h : ∀ (k : Nat) (xs : List α) (i : Int), xs.length = n → 0 ≤ i → i ≤ n → l (k + 1) xs i = if i < n then l k (xs.set i.toNat (f i)) (i + 1) else some xs) :
    ∀ (d k : Nat) (xs : List α) (i : Nat), xs.length = n → i + d = n → d < k → l k xs i = some (xs.take i ++ (List.range d).map fun j => f ((i + j : Nat) : Int)) := by
  intro d
  induction d with
  | zero =>
    intro k xs i hl hd hk
    obtain ⟨k, rfl⟩ : ∃ m, k = m + 1 := ⟨k - 1, by omega⟩
    rw [h k xs i hl (by omega) (by omega), if_neg (by omega)]
    simp [List.take_of_length_le (show xs.length ≤ i by omega)]
  | succ d ih =>
    intro k xs i hl hd hk
    obtain ⟨k, rfl⟩ : ∃ m, k = m + 1 := ⟨k - 1, by omega⟩
    rw [h k xs i hl (by omega) (by omega), if_pos (by omega)]
    have e := ih k (xs.set (i : Int).toNat (f i)) (i + 1) (by simpa using hl) (by omega) (by omega)
    rw [show ((i + 1 : Nat) : Int) = (i : Int) + 1 by omega] at e
    rw [e, List.range_succ_eq_map, List.map_cons, List.map_map]
    congr 1
    rw [Int.toNat_natCast]
    have hi : i < xs.length := by omega
    rw [List.take_succ_eq_append_getElem (by simpa using hi), List.getElem_set_self, List.take_set_of_le (by omega)]
    simp [Function.comp_def, Nat.add_assoc, Nat.add_comm 1]
theorem loop_set0 {α : Type} {l : Nat → List α → Int → Option (List α)} {f : Int → α} {n : Nat} (h : ∀ (k : Nat) (xs : List α) (i : Int), xs.length = n → 0 ≤ i → i ≤ n → l (k + 1) xs i = if i < n then l k (xs.set i.toNat (f i)) (i + 1) else some xs)
    (k : Nat) (hk : n < k) (xs : List α) (hl : xs.length = n) : l k xs 0 = some ((List.range n).map fun j : Nat => f (j : Int)) := by
  have e := loop_set h n k xs 0 hl (by omega) hk
  simpa using e

def cvN (x : S27) : S36 := ⟨x.f0, x.f1⟩
def cvE (x : S70) : S56 := ⟨x.f0, ⟨x.f1.f0, x.f1.f1⟩, ⟨x.f2.f0, x.f2.f1⟩⟩
theorem toNodeS_ok (l : List S27) (hm : l.length ≤ 1048576) (k : Nat) (hk : l.length < k) : laws_toNodeS.f k l = some (l.map cvN) := by
  unfold laws_toNodeS.f
  rw [if_pos (by omega), if_pos (by omega)]
  have h := loop_set0 (l := fun k xs i => laws_toNodeS.l0 k l xs i) (f := fun i => cvN (rd_T27 l i)) (n := l.length) (fun k xs i hl h0 h1 => by
    show laws_toNodeS.l0 (k + 1) l xs i = _
    simp only [laws_toNodeS.l0, laws_toNode.f, Option.bind_some]
    by_cases h : i < (l.length : Int)
    · rw [if_pos h, if_pos h, if_pos h0, if_pos (by omega), w64 (x := i + 1) (by omega)]; rfl
    · rw [if_neg h, if_neg h]) k hk (List.replicate ((l.length : Int) : Int).toNat z36) (by simp)
  rw [h]
  congr 1
  apply List.ext_getElem (by simp)
  intro j h1 h2
  simp at h1
  simp [rd_T27, List.getD_eq_getElem?_getD, h1]
theorem toEdgeS_ok (l : List S70) (hm : l.length ≤ 1048576) (k : Nat) (hk : l.length < k) : laws_toEdgeS.f k l = some (l.map cvE) := by
  unfold laws_toEdgeS.f
  rw [if_pos (by omega), if_pos (by omega)]
  have h := loop_set0 (l := fun k xs i => laws_toEdgeS.l0 k l xs i) (f := fun i => cvE (rd_T70 l i)) (n := l.length) (fun k xs i hl h0 h1 => by
    show laws_toEdgeS.l0 (k + 1) l xs i = _
    simp only [laws_toEdgeS.l0, laws_toEdge.f, laws_toNode.f, Option.bind_some]
    by_cases h : i < (l.length : Int)
    · rw [if_pos h, if_pos h, if_pos h0, if_pos (by omega), w64 (x := i + 1) (by omega)]; rfl
    · rw [if_neg h, if_neg h]) k hk (List.replicate ((l.length : Int) : Int).toNat z56) (by simp)
  rw [h]
  congr 1
  apply List.ext_getElem (by simp)
  intro j h1 h2
  simp at h1
  simp [rd_T70, List.getD_eq_getElem?_getD, h1]
theorem toGraph_ok (a : List S27) (b : List S70) (ha : a.length ≤ 1048576) (hb : b.length ≤ 1048576) (k : Nat) (hk : a.length + b.length < k) : laws_toGraph.f k a b = some (a.map cvN, b.map cvE) := by
  unfold laws_toGraph.f
  rw [toNodeS_ok a ha k (by omega), toEdgeS_ok b hb k (by omega)]; rfl
theorem szGraph_ok (a : List S27) (b : List S70) (ha : a.length ≤ maxLen) (hb : b.length ≤ maxLen) (n : Int) (h0 : 0 ≤ n) (h1 : n ≤ 1048576) :
    ∃ r, laws_szGraph.f a b n = some r ∧ r ≤ n ∧ (0 ≤ r → a.length + b.length + r = n) := by
  unfold maxLen at ha hb
  unfold laws_szGraph.f laws_szNodeS.f laws_szEdgeS.f
  rw [w64 (x := n - (a.length : Int)) (by omega)]
  by_cases h : n - (a.length : Int) < 0
  · rw [if_pos h]; simp only [Option.bind_some]; rw [if_pos (by omega)]; exact ⟨-1, rfl, by omega, by omega⟩
  · rw [if_neg h]; simp only [Option.bind_some]; rw [if_neg h, w64 (x := n - (a.length : Int) - (b.length : Int)) (by omega)]
    by_cases h' : n - (a.length : Int) - (b.length : Int) < 0
    · rw [if_pos h']; simp only [Option.bind_some]; rw [if_pos (by omega)]; exact ⟨-1, rfl, by omega, by omega⟩
    · rw [if_neg h']; simp only [Option.bind_some]; rw [if_neg h']; exact ⟨_, rfl, by omega, by omega⟩
def EN (a b : S36) : Bool := a.f0 == b.f0 && (a.f1 == b.f1)
def EE (a b : S56) : Bool := a.f0 == b.f0 && ((a.f1.f0 == b.f1.f0 && (a.f1.f1 == b.f1.f1)) && (a.f2.f0 == b.f2.f0 && (a.f2.f1 == b.f2.f1)))
theorem EN_self (a : S36) : EN a a = true := by simp [EN]
theorem EE_self (a : S56) : EE a a = true := by simp [EE]
def Ns (xs ys : List S36) : Bool := (List.range xs.length).all fun j => EN (rd_T36 xs (0 + (j : Int))) (rd_T36 ys (0 + (j : Int)))
def Ed (xs ys : List S56) : Bool := (List.range xs.length).all fun j => EE (rd_T56 xs (0 + (j : Int))) (rd_T56 ys (0 + (j : Int)))
theorem Ns_self (xs : List S36) : Ns xs xs = true := by unfold Ns; rw [List.all_eq_true]; intro j _; exact EN_self _
theorem Ed_self (xs : List S56) : Ed xs xs = true := by unfold Ed; rw [List.all_eq_true]; intro j _; exact EE_self _
theorem eqNodeS_ok (xs ys : List S36) (hm : xs.length ≤ 2097152) (hl : xs.length = ys.length) (k : Nat) (hk : xs.length < k) : laws_eqNodeS.f k xs ys = some (Ns xs ys) := by
  unfold laws_eqNodeS.f
  rw [if_pos (by omega)]
  exact loop_all (l := fun k i => laws_eqNodeS.l0 k xs ys i) (p := fun i => EN (rd_T36 xs i) (rd_T36 ys i)) (n := xs.length) (fun k i h0 h1 => by
    show laws_eqNodeS.l0 (k + 1) xs ys i = _
    simp only [laws_eqNodeS.l0, laws_eqNode.f]
    by_cases h : i < (xs.length : Int)
    · rw [if_pos h, if_pos h, if_pos h0, if_pos (by omega), w64 (x := i + 1) (by omega)]
      unfold EN
      by_cases c1 : (rd_T36 xs i).f0 = (rd_T36 ys i).f0
      · by_cases c2 : (rd_T36 xs i).f1 = (rd_T36 ys i).f1
        · simp [c1, c2]
        · simp [c1, c2]
      · simp [c1]
    · rw [if_neg h, if_neg h]) xs.length k 0 (by omega) (by omega) hk
theorem eqEdge_ok (a b : S56) : laws_eqEdge.f a.f0 a.f1.f0 a.f1.f1 a.f2.f0 a.f2.f1 b.f0 b.f1.f0 b.f1.f1 b.f2.f0 b.f2.f1 = some (EE a b) := by
  unfold laws_eqEdge.f laws_eqNode.f EE
  by_cases c0 : a.f0 = b.f0 <;> by_cases c1 : a.f1.f0 = b.f1.f0 <;> by_cases c2 : a.f1.f1 = b.f1.f1 <;> by_cases c3 : a.f2.f0 = b.f2.f0 <;> by_cases c4 : a.f2.f1 = b.f2.f1 <;> simp [c0, c1, c2, c3, c4]
theorem eqEdgeS_ok (xs ys : List S56) (hm : xs.length ≤ 2097152) (hl : xs.length = ys.length) (k : Nat) (hk : xs.length < k) : laws_eqEdgeS.f k xs ys = some (Ed xs ys) := by
  unfold laws_eqEdgeS.f
  rw [if_pos (by omega)]
  exact loop_all (l := fun k i => laws_eqEdgeS.l0 k xs ys i) (p := fun i => EE (rd_T56 xs i) (rd_T56 ys i)) (n := xs.length) (fun k i h0 h1 => by
    show laws_eqEdgeS.l0 (k + 1) xs ys i = _
    simp only [laws_eqEdgeS.l0]
    by_cases h : i < (xs.length : Int)
    · rw [if_pos h, if_pos h, if_pos h0, if_pos (by omega), w64 (x := i + 1) (by omega), eqEdge_ok]; rfl
    · rw [if_neg h, if_neg h]) xs.length k 0 (by omega) (by omega) hk
/-- A graph is the same as itself. -/
theorem eqGraph_self (xs : List S36) (ys : List S56) (hx : xs.length ≤ 2097152) (hy : ys.length ≤ 2097152) (k : Nat) (hk : xs.length + ys.length < k) : laws_eqGraph.f k xs ys xs ys = some true := by
  unfold laws_eqGraph.f
  rw [eqNodeS_ok xs xs hx rfl k (by omega), Ns_self, eqEdgeS_ok ys ys hy rfl k (by omega), Ed_self]; rfl

/-- Nodes are right and ascend, from a number on. -/
def Asc : List S36 → Int → Bool
  | [], _ => true
  | x :: xs, last => decide (last < Cd x.f0 x.f1) && Asc xs (Cd x.f0 x.f1)
/-- How many nodes there are of a label. -/
def cN (a : Int) (xs : List S36) : Nat := (xs.filter fun x => x.f0 == a).length
def cE (a : Int) (xs : List S56) : Nat := (xs.filter fun x => x.f0 == a).length
/-- Nodes as the program goes through them. -/
def NR : List S36 → Int → List Int → Bool
  | [], _, _ => true
  | x :: xs, last, m => if Cd x.f0 x.f1 ≤ last then false else if rd m x.f0 = 5 then false else NR xs (Cd x.f0 x.f1) (m.set x.f0.toNat (wrap64 (rd m x.f0 + 1)))
theorem rdT_at {xs : List S36} {i : Nat} (h : i < xs.length) : rd_T36 xs (i : Int) = xs[i] := by
  unfold rd_T36; rw [Int.toNat_natCast, List.getD_eq_getElem?_getD, List.getElem?_eq_getElem h]; rfl
theorem rdE_at {xs : List S56} {i : Nat} (h : i < xs.length) : rd_T56 xs (i : Int) = xs[i] := by
  unfold rd_T56; rw [Int.toNat_natCast, List.getD_eq_getElem?_getD, List.getElem?_eq_getElem h]; rfl
theorem nodesOk_l0 (xs : List S36) (hm : xs.length ≤ 2097152) : ∀ (d k : Nat) (i : Nat) (last : Int) (m : List Int), i + d = xs.length → d < k → impl_nodesOk.l0 k xs last m i = some (NR (xs.drop i) last m) := by
  intro d
  induction d with
  | zero =>
    intro k i last m hd hk
    obtain ⟨k, rfl⟩ : ∃ m, k = m + 1 := ⟨k - 1, by omega⟩
    simp only [impl_nodesOk.l0]
    rw [if_neg (by omega), List.drop_of_length_le (by omega)]; rfl
  | succ d ih =>
    intro k i last m hd hk
    obtain ⟨k, rfl⟩ : ∃ m, k = m + 1 := ⟨k - 1, by omega⟩
    have hi : i < xs.length := by omega
    simp only [impl_nodesOk.l0]
    rw [if_pos (by omega), if_pos (by omega), rdT_at hi, List.drop_eq_getElem_cons hi]
    simp only [NR]
    have e := ih k (i + 1)
    rw [show ((i + 1 : Nat) : Int) = (i : Int) + 1 by omega] at e
    rw [w64 (x := (i : Int) + 1) (by omega)]
    split
    · rfl
    · split
      · rfl
      · exact e _ _ (by omega) (by omega)
/-- The counts hold what they should, and none is over five. -/
theorem NR_eq : ∀ (xs : List S36) (last : Int) (m : List Int), -1 ≤ last → m.length = 8 → (∀ a : Nat, a < 8 → 0 ≤ rd m a ∧ rd m a ≤ 5) →
    NR xs last m = (Asc xs last && (List.range 8).all fun a => decide (rd m a + cN a xs ≤ 5))
  | [], last, m, h0, hl, hm => by
    have : ((List.range 8).all fun a => decide (rd m a + cN a ([] : List S36) ≤ 5)) = true := by
      rw [List.all_eq_true]
      intro a ha
      have := hm a (List.mem_range.1 ha)
      simp [cN]; omega
    rw [this]; rfl
  | x :: xs, last, m, h0, hl, hm => by
    simp only [NR, Asc]
    by_cases c : Cd x.f0 x.f1 ≤ last
    · rw [if_pos c, decide_eq_false (by omega)]; rfl
    · rw [if_neg c, decide_eq_true (by omega : last < Cd x.f0 x.f1), Bool.true_and]
      obtain ⟨e1, e2, e3, e4, e5⟩ := Cd_ok (a := x.f0) (b := x.f1) (by omega)
      obtain ⟨j, hj⟩ := Int.eq_ofNat_of_zero_le e2
      rw [hj]
      have hj8 : j < 8 := by omega
      have hmj := hm j hj8
      by_cases c2 : rd m (j : Int) = 5
      · rw [if_pos c2]
        have : ((List.range 8).all fun a => decide (rd m a + cN a (x :: xs) ≤ 5)) = false := by
          rw [List.all_eq_false]
          refine ⟨j, List.mem_range.2 hj8, ?_⟩
          have : 1 ≤ cN (j : Int) (x :: xs) := by simp [cN, hj]
          simp; omega
        rw [this, Bool.and_false]
      · rw [if_neg c2, ← hj, w64 (x := rd m x.f0 + 1) (by rw [hj]; omega)]
        have hr : ∀ a : Nat, a < 8 → rd (m.set x.f0.toNat (rd m x.f0 + 1)) a = if a = j then rd m a + 1 else rd m a := by
          intro a ha
          rw [hj, Int.toNat_natCast]
          unfold rd
          simp only [Int.toNat_natCast, List.getD_eq_getElem?_getD, List.getElem?_set]
          by_cases q : j = a
          · subst q; simp [hl, hj8]
          · rw [if_neg q, if_neg (fun h => q h.symm)]
        rw [NR_eq xs (Cd x.f0 x.f1) _ (by omega) (by simpa using hl) (fun a ha => by
          rw [hr a ha]; have := hm a ha; split
          · rename_i q; subst q; omega
          · omega)]
        congr 1
        apply Bool.eq_iff_iff.2
        rw [List.all_eq_true, List.all_eq_true]
        have hc : ∀ a : Nat, a < 8 → (rd (m.set x.f0.toNat (rd m x.f0 + 1)) a + cN a xs = rd m a + cN a (x :: xs)) := by
          intro a ha
          rw [hr a ha]
          by_cases q : a = j
          · subst q; rw [if_pos rfl]; simp [cN, hj]; omega
          · rw [if_neg q]
            have : ¬ ((x.f0 == (a : Int)) = true) := by rw [hj]; simp; omega
            simp [cN, List.filter_cons, this]
        constructor
        · intro h a ha; have := h a ha; have e := hc a (List.mem_range.1 ha); simp at this ⊢; omega
        · intro h a ha; have := h a ha; have e := hc a (List.mem_range.1 ha); simp at this ⊢; omega
theorem Asc_ok : ∀ (xs : List S36) (last : Int), -1 ≤ last → Asc xs last = true → ∀ x ∈ xs, nOk x.f0 x.f1 = true ∧ last < Cd x.f0 x.f1
  | [], _, _, _, x, hx => by cases hx
  | y :: xs, last, h0, h, x, hx => by
    simp only [Asc, Bool.and_eq_true, decide_eq_true_eq] at h
    have c := Cd_ok (a := y.f0) (b := y.f1) (by omega)
    rcases List.mem_cons.1 hx with rfl | hx
    · exact ⟨nOk_iff.2 ⟨⟨c.2.1, c.2.2.1⟩, ⟨c.2.2.2.1, c.2.2.2.2⟩⟩, h.1⟩
    · have := Asc_ok xs _ (by omega) h.2 x hx
      exact ⟨this.1, by omega⟩
theorem len_sum : ∀ (xs : List S36), (∀ x ∈ xs, 0 ≤ x.f0 ∧ x.f0 ≤ 7) → xs.length = cN 0 xs + cN 1 xs + cN 2 xs + cN 3 xs + cN 4 xs + cN 5 xs + cN 6 xs + cN 7 xs
  | [], _ => by simp [cN]
  | x :: xs, h => by
    have ih := len_sum xs (fun y hy => h y (List.mem_cons_of_mem _ hy))
    have hx := h x (List.mem_cons_self ..)
    have e : ∀ a : Int, cN a (x :: xs) = cN a xs + if x.f0 = a then 1 else 0 := by
      intro a
      by_cases c : x.f0 = a
      · simp [cN, List.filter_cons, c]
      · simp [cN, List.filter_cons, c]
    simp only [e, List.length_cons]
    rcases (show x.f0 = 0 ∨ x.f0 = 1 ∨ x.f0 = 2 ∨ x.f0 = 3 ∨ x.f0 = 4 ∨ x.f0 = 5 ∨ x.f0 = 6 ∨ x.f0 = 7 by omega) with c | c | c | c | c | c | c | c <;> rw [c] <;> simp <;> omega
theorem len_sumE : ∀ (xs : List S56), (∀ x ∈ xs, 0 ≤ x.f0 ∧ x.f0 ≤ 7) → xs.length = cE 0 xs + cE 1 xs + cE 2 xs + cE 3 xs + cE 4 xs + cE 5 xs + cE 6 xs + cE 7 xs
  | [], _ => by simp [cE]
  | x :: xs, h => by
    have ih := len_sumE xs (fun y hy => h y (List.mem_cons_of_mem _ hy))
    have hx := h x (List.mem_cons_self ..)
    have e : ∀ a : Int, cE a (x :: xs) = cE a xs + if x.f0 = a then 1 else 0 := by
      intro a
      by_cases c : x.f0 = a
      · simp [cE, List.filter_cons, c]
      · simp [cE, List.filter_cons, c]
    simp only [e, List.length_cons]
    rcases (show x.f0 = 0 ∨ x.f0 = 1 ∨ x.f0 = 2 ∨ x.f0 = 3 ∨ x.f0 = 4 ∨ x.f0 = 5 ∨ x.f0 = 6 ∨ x.f0 = 7 by omega) with c | c | c | c | c | c | c | c <;> rw [c] <;> simp <;> omega
/-- The nodes' part of the document's function. -/
theorem specN_l0 (ns : List S36) (es : List S56) (hm : ns.length ≤ 2097152) (R : Option Bool) (K : Nat) (hR : ∀ k, K ≤ k → spec_GraphOk.l1 k 0 ns es = R) : ∀ (d k : Nat) (i : Nat) (last : Int), i + d = ns.length → i ≤ 40 →
    (i = 0 ∧ last = -1 ∨ 0 < i ∧ ∃ h : i - 1 < ns.length, nOk (ns[i - 1]).f0 (ns[i - 1]).f1 = true ∧ last = Cd (ns[i - 1]).f0 (ns[i - 1]).f1) → K + d < k →
    spec_GraphOk.l0 k i ns es = if (Asc (ns.drop i) last && decide (ns.length ≤ 40)) = true then R else some false := by
  intro d
  induction d with
  | zero =>
    intro k i last hd h40 hl hk
    obtain ⟨k, rfl⟩ : ∃ m, k = m + 1 := ⟨k - 1, by omega⟩
    simp only [spec_GraphOk.l0]
    rw [if_neg (by omega), List.drop_of_length_le (by omega), hR k (by omega), if_pos (by simp [Asc]; omega)]
  | succ d ih =>
    intro k i last hd h40 hl hk
    obtain ⟨k, rfl⟩ : ∃ m, k = m + 1 := ⟨k - 1, by omega⟩
    have hi : i < ns.length := by omega
    simp only [spec_GraphOk.l0]
    have ih' := ih k (i + 1) (Cd (ns[i]).f0 (ns[i]).f1) (by omega)
    rw [if_pos (by omega), if_pos (by omega), rdT_at hi, List.drop_eq_getElem_cons hi, sN]
    simp only [Option.bind_some, Asc]
    by_cases c : nOk (ns[i]).f0 (ns[i]).f1 = true
    · have cd : Cd (ns[i]).f0 (ns[i]).f1 = 64 * (ns[i]).f0 + (ns[i]).f1 := by unfold Cd; rw [if_pos c]
      have cn := nOk_iff.1 c
      rw [if_pos c]
      have fin : (if (i : Int) ≥ 40 then some false else spec_GraphOk.l0 k (wrap64 ((i : Int) + 1)) ns es) = if (Asc (ns.drop (i + 1)) (Cd (ns[i]).f0 (ns[i]).f1) && decide (ns.length ≤ 40)) = true then R else some false := by
        by_cases c4 : (i : Int) ≥ 40
        · rw [if_pos c4]; simp only [show ¬ ns.length ≤ 40 by omega, decide_false, Bool.and_false, Bool.false_eq_true, if_false]
        · rw [if_neg c4, w64 (x := (i : Int) + 1) (by omega), show (i : Int) + 1 = ((i + 1 : Nat) : Int) by omega]
          exact ih' (by omega) (.inr ⟨by omega, by simpa using hi, by simpa using c, by simp⟩) (by omega)
      rcases hl with ⟨h0, hl⟩ | ⟨h0, h1, h2, h3⟩
      · rw [if_neg (by omega), fin]; simp only [show last < Cd (ns[i]).f0 (ns[i]).f1 by omega, decide_true, Bool.true_and]
      · rw [if_pos (by omega), w64 (x := (i : Int) - 1) (by omega), if_pos (by omega), if_pos (by omega), show (i : Int) - 1 = ((i - 1 : Nat) : Int) by omega, rdT_at h1, sC2 h2, sC2 c]
        simp only [Option.bind_some]
        have cp : Cd (ns[i - 1]).f0 (ns[i - 1]).f1 = 64 * (ns[i - 1]).f0 + (ns[i - 1]).f1 := by unfold Cd; rw [if_pos h2]
        by_cases c3 : 64 * (ns[i - 1]).f0 + (ns[i - 1]).f1 ≥ 64 * (ns[i]).f0 + (ns[i]).f1
        · rw [if_pos c3]; simp only [show ¬ last < Cd (ns[i]).f0 (ns[i]).f1 by omega, decide_false, Bool.false_and, Bool.false_eq_true, if_false]
        · rw [if_neg c3, fin]; simp only [show last < Cd (ns[i]).f0 (ns[i]).f1 by omega, decide_true, Bool.true_and]
    · rw [if_neg c]
      have : Cd (ns[i]).f0 (ns[i]).f1 = -1 := by unfold Cd; rw [if_neg c]
      have hl' : -1 ≤ last := by
        rcases hl with ⟨_, h⟩ | ⟨_, h1, h2, h3⟩
        · omega
        · rw [h3]; unfold Cd; rw [if_pos h2]; have := nOk_iff.1 h2; omega
      simp only [show ¬ last < Cd (ns[i]).f0 (ns[i]).f1 by omega, decide_false, Bool.false_and, Bool.false_eq_true, if_false]
/-- A node is among them. -/
def In (ns : List S36) (a b : Int) : Bool := ns.any fun x => x.f0 == a && (x.f1 == b)
/-- An edge stands ahead of another one. -/
def Lt (p e : S56) : Bool := if p.f0 = e.f0 then (if p.f1.f0 = e.f1.f0 ∧ p.f1.f1 = e.f1.f1 then decide (Cd p.f2.f0 p.f2.f1 < Cd e.f2.f0 e.f2.f1) else decide (Cd p.f1.f0 p.f1.f1 < Cd e.f1.f0 e.f1.f1)) else decide (p.f0 < e.f0)
def Eo (e : S56) : Bool := EOk e.f0 e.f1.f0 e.f1.f1 e.f2.f0 e.f2.f1
/-- Edges are right, ascend, and stand between nodes that are there. -/
def EAsc (ns : List S36) : List S56 → Option S56 → Bool
  | [], _ => true
  | e :: es, p => Eo e && ((match p with | some p => Lt p e | none => true) && (In ns e.f1.f0 e.f1.f1 && (In ns e.f2.f0 e.f2.f1 && EAsc ns es (some e))))
theorem at_l0 (ns : List S36) (es : List S56) (hm : ns.length ≤ 2097152) (a b : Int) : ∀ (d k : Nat) (i : Nat), i + d = ns.length → d < k → ∃ r, spec_l2At.l0 k i ns es a b = some r ∧ decide (r < 0) = !In (ns.drop i) a b := by
  intro d
  induction d with
  | zero =>
    intro k i hd hk
    obtain ⟨k, rfl⟩ : ∃ m, k = m + 1 := ⟨k - 1, by omega⟩
    simp only [spec_l2At.l0]
    rw [if_neg (by omega), List.drop_of_length_le (by omega)]
    exact ⟨-1, rfl, by simp [In]⟩
  | succ d ih =>
    intro k i hd hk
    obtain ⟨k, rfl⟩ : ∃ m, k = m + 1 := ⟨k - 1, by omega⟩
    have hi : i < ns.length := by omega
    simp only [spec_l2At.l0]
    rw [if_pos (by omega), if_pos (by omega), rdT_at hi, List.drop_eq_getElem_cons hi]
    by_cases c : ((ns[i]).f0 == a && ((ns[i]).f1 == b)) = true
    · rw [if_pos c]; exact ⟨i, rfl, by simp only [In, List.any_cons, c, Bool.true_or]; simp⟩
    · rw [if_neg c, w64 (x := (i : Int) + 1) (by omega), show (i : Int) + 1 = ((i + 1 : Nat) : Int) by omega]
      obtain ⟨r, h1, h2⟩ := ih k (i + 1) (by omega) (by omega)
      refine ⟨r, h1, ?_⟩
      rw [h2]
      simp only [Bool.not_eq_true] at c
      simp only [In, List.any_cons, c, Bool.false_or]
theorem at_ok (ns : List S36) (es : List S56) (hm : ns.length ≤ 2097152) (a b : Int) (k : Nat) (hk : ns.length < k) : ∃ r, spec_l2At.f k ns es a b = some r ∧ decide (r < 0) = !In ns a b := by
  have := at_l0 ns es hm a b ns.length k 0 (by omega) hk
  simpa [spec_l2At.f] using this
theorem Cd_inj {a b c d : Int} (h1 : nOk a b = true) (h2 : nOk c d = true) : 64 * a + b = 64 * c + d ↔ a = c ∧ b = d := by
  have := nOk_iff.1 h1; have := nOk_iff.1 h2; omega
theorem Eo_iff {e : S56} : Eo e = true ↔ (0 ≤ e.f0 ∧ e.f0 ≤ 7) ∧ nOk e.f1.f0 e.f1.f1 = true ∧ nOk e.f2.f0 e.f2.f1 = true ∧ 64 * e.f1.f0 + e.f1.f1 < 64 * e.f2.f0 + e.f2.f1 ∧ U e.f1.f0 e.f0 = true ∧ U e.f2.f0 e.f0 = true := by
  simp [Eo, EOk, isL]
theorem less_ok {p e : S56} (hp : Eo p = true) (he : Eo e = true) : spec_l2Less.f p.f0 p.f1.f0 p.f1.f1 p.f2.f0 p.f2.f1 e.f0 e.f1.f0 e.f1.f1 e.f2.f0 e.f2.f1 = some (Lt p e) := by
  obtain ⟨_, p1, p2, _⟩ := Eo_iff.1 hp
  obtain ⟨_, e1, e2, _⟩ := Eo_iff.1 he
  unfold spec_l2Less.f Lt
  have cd : ∀ {a b : Int}, nOk a b = true → Cd a b = 64 * a + b := fun h => by unfold Cd; rw [if_pos h]
  rw [sC2 p1, sC2 p2, sC2 e1, sC2 e2, cd p1, cd p2, cd e1, cd e2]
  by_cases c : p.f0 = e.f0
  · rw [if_pos c, if_pos c]
    by_cases c2 : p.f1.f0 = e.f1.f0 ∧ p.f1.f1 = e.f1.f1
    · rw [if_pos c2, if_neg (by simp [c2.1, c2.2])]; rfl
    · rw [if_neg c2, if_pos (by simp; omega)]; rfl
  · rw [if_neg c, if_neg c]
/-- The edges' part of the document's function. -/
theorem specE_l1 (ns : List S36) (es : List S56) (hn : ns.length ≤ 2097152) (hm : es.length ≤ 2097152) (R : Option Bool) (K : Nat) (hK : ns.length < K) (hR : ∀ k, K ≤ k → spec_GraphOk.l2 k 0 ns es = R) : ∀ (d k : Nat) (i : Nat) (p : Option S56), i + d = es.length → i ≤ 56 →
    (i = 0 ∧ p = none ∨ 0 < i ∧ ∃ h : i - 1 < es.length, Eo (es[i - 1]) = true ∧ p = some (es[i - 1])) → K + d < k →
    spec_GraphOk.l1 k i ns es = if (EAsc ns (es.drop i) p && decide (es.length ≤ 56)) = true then R else some false := by
  intro d
  induction d with
  | zero =>
    intro k i p hd h40 hl hk
    obtain ⟨k, rfl⟩ : ∃ m, k = m + 1 := ⟨k - 1, by omega⟩
    simp only [spec_GraphOk.l1]
    rw [if_neg (by omega), List.drop_of_length_le (by omega), hR k (by omega), if_pos (by simp [EAsc]; omega)]
  | succ d ih =>
    intro k i p hd h40 hl hk
    obtain ⟨k, rfl⟩ : ∃ m, k = m + 1 := ⟨k - 1, by omega⟩
    have hi : i < es.length := by omega
    simp only [spec_GraphOk.l1]
    have ih' := ih k (i + 1) (some es[i]) (by omega)
    rw [if_pos (by omega), if_pos (by omega), rdE_at hi, List.drop_eq_getElem_cons hi]
    simp only [spec_EdgeOk.f, Option.bind_some, EAsc]
    have eEo : EOk (es[i]).f0 (es[i]).f1.f0 (es[i]).f1.f1 (es[i]).f2.f0 (es[i]).f2.f1 = Eo es[i] := rfl
    rw [eEo]
    by_cases c : Eo es[i] = true
    · obtain ⟨r1, a1, b1⟩ := at_ok ns es hn (es[i]).f1.f0 (es[i]).f1.f1 k (by omega)
      obtain ⟨r2, a2, b2⟩ := at_ok ns es hn (es[i]).f2.f0 (es[i]).f2.f1 k (by omega)
      rw [if_pos c]
      simp only [a1, a2, Option.bind_some]
      have fin : (if r1 < 0 then some false else if r2 < 0 then some false else if (i : Int) ≥ 56 then some false else spec_GraphOk.l1 k (wrap64 ((i : Int) + 1)) ns es) =
          if ((In ns (es[i]).f1.f0 (es[i]).f1.f1 && (In ns (es[i]).f2.f0 (es[i]).f2.f1 && EAsc ns (es.drop (i + 1)) (some es[i]))) && decide (es.length ≤ 56)) = true then R else some false := by
        by_cases q1 : r1 < 0
        · rw [if_pos q1]
          have : In ns (es[i]).f1.f0 (es[i]).f1.f1 = false := by rw [decide_eq_true q1] at b1; simpa using b1.symm
          simp [this]
        · rw [if_neg q1]
          have t1 : In ns (es[i]).f1.f0 (es[i]).f1.f1 = true := by rw [decide_eq_false q1] at b1; simpa using b1.symm
          by_cases q2 : r2 < 0
          · rw [if_pos q2]
            have : In ns (es[i]).f2.f0 (es[i]).f2.f1 = false := by rw [decide_eq_true q2] at b2; simpa using b2.symm
            simp [this]
          · rw [if_neg q2]
            have t2 : In ns (es[i]).f2.f0 (es[i]).f2.f1 = true := by rw [decide_eq_false q2] at b2; simpa using b2.symm
            simp only [t1, t2, Bool.true_and]
            by_cases c4 : (i : Int) ≥ 56
            · rw [if_pos c4]; simp only [show ¬ es.length ≤ 56 by omega, decide_false, Bool.and_false, Bool.false_eq_true, if_false]
            · rw [if_neg c4, w64 (x := (i : Int) + 1) (by omega), show (i : Int) + 1 = ((i + 1 : Nat) : Int) by omega]
              exact ih' (by omega) (.inr ⟨by omega, by simpa using hi, by simpa using c, by simp⟩) (by omega)
      simp only [c, Bool.true_and]
      rcases hl with ⟨h0, rfl⟩ | ⟨h0, h1, h2, rfl⟩
      · rw [if_neg (by omega), fin]; simp only [Bool.true_and]
      · rw [if_pos (by omega), w64 (x := (i : Int) - 1) (by omega), if_pos (by omega), if_pos (by omega), show (i : Int) - 1 = ((i - 1 : Nat) : Int) by omega, rdE_at h1, less_ok h2 c]
        simp only [Option.bind_some]
        by_cases c3 : Lt es[i - 1] es[i] = true
        · rw [if_pos c3, fin]; simp only [c3, Bool.true_and]
        · rw [if_neg c3]; simp only [Bool.not_eq_true] at c3; simp only [c3, Bool.false_and, Bool.false_eq_true, if_false]
    · rw [if_neg c]
      simp only [Bool.not_eq_true] at c
      simp only [c, Bool.false_and, Bool.false_eq_true, if_false]
theorem cN_cons (a : Int) (x : S36) (xs : List S36) : cN a (x :: xs) = cN a xs + if x.f0 = a then 1 else 0 := by
  by_cases c : x.f0 = a
  · simp [cN, List.filter_cons, c]
  · simp [cN, List.filter_cons, c]
theorem cE_cons (a : Int) (x : S56) (xs : List S56) : cE a (x :: xs) = cE a xs + if x.f0 = a then 1 else 0 := by
  by_cases c : x.f0 = a
  · simp [cE, List.filter_cons, c]
  · simp [cE, List.filter_cons, c]
theorem cntN_l0 (ns : List S36) (es : List S56) (hm : ns.length ≤ 2097152) (a : Int) : ∀ (d k : Nat) (n i : Nat), i + d = ns.length → n ≤ i → d < k → spec_l2Nodes.l0 k a n i ns es = some ((n + cN a (ns.drop i) : Nat) : Int) := by
  intro d
  induction d with
  | zero =>
    intro k n i hd hn hk
    obtain ⟨k, rfl⟩ : ∃ m, k = m + 1 := ⟨k - 1, by omega⟩
    simp only [spec_l2Nodes.l0]
    rw [if_neg (by omega), List.drop_of_length_le (by omega)]; simp [cN]
  | succ d ih =>
    intro k n i hd hn hk
    obtain ⟨k, rfl⟩ : ∃ m, k = m + 1 := ⟨k - 1, by omega⟩
    have hi : i < ns.length := by omega
    simp only [spec_l2Nodes.l0]
    rw [if_pos (by omega), if_pos (by omega), rdT_at hi, List.drop_eq_getElem_cons hi, cN_cons, w64 (x := (i : Int) + 1) (by omega), w64 (x := (n : Int) + 1) (by omega), show (i : Int) + 1 = ((i + 1 : Nat) : Int) by omega, show (n : Int) + 1 = ((n + 1 : Nat) : Int) by omega]
    by_cases c : (ns[i]).f0 = a
    · rw [if_pos c, if_pos c, ih k (n + 1) (i + 1) (by omega) (by omega) (by omega)]; congr 2; omega
    · rw [if_neg c, if_neg c, ih k n (i + 1) (by omega) (by omega) (by omega)]; congr 2
theorem cntE_l0 (ns : List S36) (es : List S56) (hm : es.length ≤ 2097152) (a : Int) : ∀ (d k : Nat) (n i : Nat), i + d = es.length → n ≤ i → d < k → spec_l2Edges.l0 k a n i ns es = some ((n + cE a (es.drop i) : Nat) : Int) := by
  intro d
  induction d with
  | zero =>
    intro k n i hd hn hk
    obtain ⟨k, rfl⟩ : ∃ m, k = m + 1 := ⟨k - 1, by omega⟩
    simp only [spec_l2Edges.l0]
    rw [if_neg (by omega), List.drop_of_length_le (by omega)]; simp [cE]
  | succ d ih =>
    intro k n i hd hn hk
    obtain ⟨k, rfl⟩ : ∃ m, k = m + 1 := ⟨k - 1, by omega⟩
    have hi : i < es.length := by omega
    simp only [spec_l2Edges.l0]
    rw [if_pos (by omega), if_pos (by omega), rdE_at hi, List.drop_eq_getElem_cons hi, cE_cons, w64 (x := (i : Int) + 1) (by omega), w64 (x := (n : Int) + 1) (by omega), show (i : Int) + 1 = ((i + 1 : Nat) : Int) by omega, show (n : Int) + 1 = ((n + 1 : Nat) : Int) by omega]
    by_cases c : (es[i]).f0 = a
    · rw [if_pos c, if_pos c, ih k (n + 1) (i + 1) (by omega) (by omega) (by omega)]; congr 2; omega
    · rw [if_neg c, if_neg c, ih k n (i + 1) (by omega) (by omega) (by omega)]; congr 2
/-- No label has too many. -/
def Few (ns : List S36) (es : List S56) : Bool := (List.range 8).all fun a => decide (cN a ns ≤ 5) && decide (cE a es ≤ 7)
theorem specC_l2 (ns : List S36) (es : List S56) (hn : ns.length ≤ 2097152) (hm : es.length ≤ 2097152) : ∀ (d k : Nat) (a : Nat), a + d = 8 → ns.length + es.length + d < k →
    spec_GraphOk.l2 k a ns es = some ((List.range d).all fun j => decide (cN ((a + j : Nat) : Int) ns ≤ 5) && decide (cE ((a + j : Nat) : Int) es ≤ 7)) := by
  intro d
  induction d with
  | zero =>
    intro k a hd hk
    obtain ⟨k, rfl⟩ : ∃ m, k = m + 1 := ⟨k - 1, by omega⟩
    simp only [spec_GraphOk.l2]
    rw [if_neg (by omega)]; rfl
  | succ d ih =>
    intro k a hd hk
    obtain ⟨k, rfl⟩ : ∃ m, k = m + 1 := ⟨k - 1, by omega⟩
    simp only [spec_GraphOk.l2]
    have n0 : spec_l2Nodes.f k ns es a = some ((cN a ns : Nat) : Int) := by
      have := cntN_l0 ns es hn a ns.length k 0 0 (by omega) (by omega) (by omega)
      simpa [spec_l2Nodes.f] using this
    have e0 : spec_l2Edges.f k ns es a = some ((cE a es : Nat) : Int) := by
      have := cntE_l0 ns es hm a es.length k 0 0 (by omega) (by omega) (by omega)
      simpa [spec_l2Edges.f] using this
    rw [if_pos (by omega), n0, e0, List.range_succ_eq_map, List.all_cons, List.all_map]
    simp only [Option.bind_some, Nat.add_zero]
    have r := ih k (a + 1) (by omega) (by omega)
    rw [w64 (x := (a : Int) + 1) (by omega), show (a : Int) + 1 = ((a + 1 : Nat) : Int) by omega, r]
    have f : ((fun j : Nat => decide (cN ((a + j : Nat) : Int) ns ≤ 5) && decide (cE ((a + j : Nat) : Int) es ≤ 7)) ∘ Nat.succ) = fun j : Nat => decide (cN ((a + 1 + j : Nat) : Int) ns ≤ 5) && decide (cE ((a + 1 + j : Nat) : Int) es ≤ 7) := by
      funext j; simp only [Function.comp_def, show a + Nat.succ j = a + 1 + j by omega]
    rw [f]
    by_cases c1 : (cN a ns : Int) > 5
    · rw [if_pos c1]; simp only [show ¬ cN a ns ≤ 5 by omega, decide_false, Bool.false_and]
    · rw [if_neg c1]
      by_cases c2 : (cE a es : Int) > 7
      · rw [if_pos c2]; simp only [show ¬ cE a es ≤ 7 by omega, decide_false, Bool.and_false, Bool.false_and]
      · rw [if_neg c2]; simp only [show cN a ns ≤ 5 by omega, show cE a es ≤ 7 by omega, decide_true, Bool.true_and]
/-- A graph is right. -/
def GOk (ns : List S36) (es : List S56) : Bool := Asc ns (-1) && (EAsc ns es none && Few ns es)
theorem Few_len {ns : List S36} {es : List S56} (h : Few ns es = true) (h1 : Asc ns (-1) = true) : ns.length ≤ 40 := by
  have hl := len_sum ns (fun x hx => by have := nOk_iff.1 (Asc_ok ns (-1) (by omega) h1 x hx).1; omega)
  have q : ∀ a : Nat, a < 8 → cN a ns ≤ 5 := fun a ha => by
    have := List.all_eq_true.1 h a (List.mem_range.2 ha)
    simp at this; exact this.1
  have q0 := q 0 (by omega); have q1 := q 1 (by omega); have q2 := q 2 (by omega); have q3 := q 3 (by omega)
  have q4 := q 4 (by omega); have q5 := q 5 (by omega); have q6 := q 6 (by omega); have q7 := q 7 (by omega)
  simp at q0 q1 q2 q3 q4 q5 q6 q7
  omega
theorem EAsc_ok (ns : List S36) : ∀ (es : List S56) (p : Option S56), EAsc ns es p = true → ∀ e ∈ es, Eo e = true
  | [], _, _, x, hx => by cases hx
  | y :: es, p, h, x, hx => by
    simp only [EAsc, Bool.and_eq_true] at h
    rcases List.mem_cons.1 hx with rfl | hx
    · exact h.1
    · exact EAsc_ok ns es _ h.2.2.2.2 x hx
theorem Few_lenE {ns : List S36} {es : List S56} (h : Few ns es = true) (h1 : EAsc ns es none = true) : es.length ≤ 56 := by
  have hl := len_sumE es (fun x hx => (Eo_iff.1 (EAsc_ok ns es none h1 x hx)).1)
  have q : ∀ a : Nat, a < 8 → cE a es ≤ 7 := fun a ha => by
    have := List.all_eq_true.1 h a (List.mem_range.2 ha)
    simp at this; exact this.2
  have q0 := q 0 (by omega); have q1 := q 1 (by omega); have q2 := q 2 (by omega); have q3 := q 3 (by omega)
  have q4 := q 4 (by omega); have q5 := q 5 (by omega); have q6 := q 6 (by omega); have q7 := q 7 (by omega)
  simp at q0 q1 q2 q3 q4 q5 q6 q7
  omega
theorem sGraphOk_ok (ns : List S36) (es : List S56) (hn : ns.length ≤ 2097152) (hm : es.length ≤ 2097152) (k : Nat) (hk : 2 * ns.length + 2 * es.length + 100 < k) : spec_GraphOk.f k ns es = some (GOk ns es) := by
  have h2 : ∀ q, ns.length + es.length + 10 ≤ q → spec_GraphOk.l2 q 0 ns es = some (Few ns es) := by
    intro q hq
    have := specC_l2 ns es hn hm 8 q 0 (by omega) (by omega)
    simpa [Few] using this
  have h1 : ∀ q, ns.length + 2 * es.length + 20 ≤ q → spec_GraphOk.l1 q 0 ns es = some (EAsc ns es none && (decide (es.length ≤ 56) && Few ns es)) := by
    intro q hq
    have := specE_l1 ns es hn hm _ (ns.length + es.length + 10) (by omega) h2 es.length q 0 none (by omega) (by omega) (.inl ⟨rfl, rfl⟩) (by omega)
    rw [List.drop_zero] at this
    rw [show ((0 : Nat) : Int) = 0 from rfl] at this
    rw [this]
    cases EAsc ns es none <;> cases decide (es.length ≤ 56) <;> rfl
  have h0 := specN_l0 ns es hn _ (ns.length + 2 * es.length + 20) h1 ns.length k 0 (-1) (by omega) (by omega) (.inl ⟨rfl, rfl⟩) (by omega)
  rw [List.drop_zero] at h0
  rw [show ((0 : Nat) : Int) = 0 from rfl] at h0
  unfold spec_GraphOk.f GOk
  rw [h0]
  cases c1 : Asc ns (-1)
  · rfl
  · cases c2 : EAsc ns es none
    · simp
    · cases c3 : Few ns es
      · simp
      · have l1 := Few_len c3 c1
        have l2 := Few_lenE c3 c2
        simp [l1, l2]
/-- Edges as the program goes through them. -/
def ER (ns : List S36) : List S56 → Option S56 → List Int → Bool
  | [], _, _ => true
  | e :: es, p, m => if Eo e = true then (if rd m e.f0 = 7 then false else if (match p with | some p => Lt p e | none => true) = true then (if In ns e.f1.f0 e.f1.f1 = true then (if In ns e.f2.f0 e.f2.f1 = true then ER ns es (some e) (m.set e.f0.toNat (wrap64 (rd m e.f0 + 1))) else false) else false) else false) else false
theorem ER_eq (ns : List S36) : ∀ (es : List S56) (p : Option S56) (m : List Int), m.length = 8 → (∀ a : Nat, a < 8 → 0 ≤ rd m a ∧ rd m a ≤ 7) →
    ER ns es p m = (EAsc ns es p && (List.range 8).all fun a => decide (rd m a + cE a es ≤ 7))
  | [], p, m, hl, hm => by
    have : ((List.range 8).all fun a => decide (rd m a + cE a ([] : List S56) ≤ 7)) = true := by
      rw [List.all_eq_true]
      intro a ha
      have := hm a (List.mem_range.1 ha)
      simp [cE]; omega
    rw [this]; rfl
  | x :: xs, p, m, hl, hm => by
    simp only [ER, EAsc]
    by_cases c : Eo x = true
    · rw [if_pos c]
      obtain ⟨⟨e2, e3⟩, _⟩ := Eo_iff.1 c
      obtain ⟨j, hj⟩ := Int.eq_ofNat_of_zero_le e2
      have hj8 : j < 8 := by omega
      have hmj := hm j hj8
      by_cases c2 : rd m x.f0 = 7
      · rw [if_pos c2]
        have : ((List.range 8).all fun a => decide (rd m a + cE a (x :: xs) ≤ 7)) = false := by
          rw [List.all_eq_false]
          refine ⟨j, List.mem_range.2 hj8, ?_⟩
          have : 1 ≤ cE (j : Int) (x :: xs) := by simp [cE, hj]
          rw [hj] at c2
          simp; omega
        rw [this, Bool.and_false]
      · rw [if_neg c2, w64 (x := rd m x.f0 + 1) (by rw [hj]; omega)]
        have hr : ∀ a : Nat, a < 8 → rd (m.set x.f0.toNat (rd m x.f0 + 1)) a = if a = j then rd m a + 1 else rd m a := by
          intro a ha
          rw [hj, Int.toNat_natCast]
          unfold rd
          simp only [Int.toNat_natCast, List.getD_eq_getElem?_getD, List.getElem?_set]
          by_cases q : j = a
          · subst q; simp [hl, hj8]
          · rw [if_neg q, if_neg (fun h => q h.symm)]
        have c2' : rd m (j : Int) ≠ 7 := by rw [← hj]; exact c2
        rw [ER_eq ns xs (some x) _ (by simpa using hl) (fun a ha => by
          rw [hr a ha]; have := hm a ha; split
          · rename_i q; subst q; omega
          · omega)]
        have hc : ((List.range 8).all fun a => decide (rd (m.set x.f0.toNat (rd m x.f0 + 1)) a + cE a xs ≤ 7)) = (List.range 8).all fun a => decide (rd m a + cE a (x :: xs) ≤ 7) := by
          apply Bool.eq_iff_iff.2
          rw [List.all_eq_true, List.all_eq_true]
          have hc : ∀ a : Nat, a < 8 → (rd (m.set x.f0.toNat (rd m x.f0 + 1)) a + cE a xs = rd m a + cE a (x :: xs)) := by
            intro a ha
            rw [hr a ha, cE_cons]
            by_cases q : a = j
            · subst q; rw [if_pos rfl, if_pos hj]; omega
            · rw [if_neg q, if_neg (by rw [hj]; omega)]; omega
          constructor
          · intro h a ha; have := h a ha; have e := hc a (List.mem_range.1 ha); simp at this ⊢; omega
          · intro h a ha; have := h a ha; have e := hc a (List.mem_range.1 ha); simp at this ⊢; omega
        rw [hc]
        simp only [c, Bool.true_and]
        cases (match p with | some p => Lt p x | none => true) <;> cases In ns x.f1.f0 x.f1.f1 <;> cases In ns x.f2.f0 x.f2.f1 <;> simp
    · rw [if_neg c]
      simp only [Bool.not_eq_true] at c
      simp only [c, Bool.false_and]
theorem Cmp_ok (a b : Int) : cmp_Compare_int.f a b = some (if a < b then -1 else if a > b then 1 else 0) := by
  unfold cmp_Compare_int.f cmp_isNaN_int.f
  simp only [Option.bind_some, bne_self_eq_false, Bool.false_eq_true, if_false]
  split
  · rfl
  · split <;> rfl
theorem Or_ok (x y z : Int) (k : Nat) (hk : 5 ≤ k) : cmp_Or_int.f k [x, y, z] = some (if x ≠ 0 then x else if y ≠ 0 then y else z) := by
  obtain ⟨k, rfl⟩ : ∃ m, k = m + 5 := ⟨k - 5, by omega⟩
  have w1 : wrap64 (0 + 1) = 1 := by decide +kernel
  have w2 : wrap64 (1 + 1) = 2 := by decide +kernel
  have w3 : wrap64 (2 + 1) = 3 := by decide +kernel
  unfold cmp_Or_int.f
  simp only [cmp_Or_int.l0, List.length_cons, List.length_nil]
  simp only [rd, w1, w2, w3]
  by_cases c1 : x = 0
  · by_cases c2 : y = 0
    · by_cases c3 : z = 0
      · simp [c1, c2, c3, w1, w2, w3]
      · simp [c1, c2, c3, w1, w2, w3]
    · simp [c1, c2, w1, w2, w3]
  · simp [c1, w1]
theorem order_ok {p e : S56} (hp : Eo p = true) (he : Eo e = true) (k : Nat) (hk : 5 ≤ k) : ∃ t, impl_edgeOrder.f k p.f0 p.f1.f0 p.f1.f1 p.f2.f0 p.f2.f1 e.f0 e.f1.f0 e.f1.f1 e.f2.f0 e.f2.f1 = some t ∧ decide (t ≥ 0) = !Lt p e := by
  obtain ⟨_, p1, p2, _⟩ := Eo_iff.1 hp
  obtain ⟨_, e1, e2, _⟩ := Eo_iff.1 he
  have cd : ∀ {a b : Int}, nOk a b = true → Cd a b = 64 * a + b := fun h => by unfold Cd; rw [if_pos h]
  have inj := Cd_inj p1 e1
  unfold impl_edgeOrder.f
  simp only [Cmp_ok, iO, Option.bind_some, Or_ok _ _ _ k hk]
  refine ⟨_, rfl, ?_⟩
  unfold Lt oN
  rw [cd p1, cd p2, cd e1, cd e2]
  by_cases c : p.f0 = e.f0
  · rw [if_pos c]
    rw [c]
    simp only [Int.lt_irrefl, if_false, gt_iff_lt, ne_eq, not_true_eq_false]
    by_cases c2 : p.f1.f0 = e.f1.f0 ∧ p.f1.f1 = e.f1.f1
    · rw [if_pos c2]
      have := inj.2 c2
      rw [this]
      simp only [Int.lt_irrefl, if_false, not_true_eq_false]
      by_cases q : 64 * p.f2.f0 + p.f2.f1 < 64 * e.f2.f0 + e.f2.f1
      · simp [q]
      · by_cases q2 : 64 * e.f2.f0 + e.f2.f1 < 64 * p.f2.f0 + p.f2.f1
        · simp [q, q2]
        · simp [q, q2]
    · rw [if_neg c2]
      have hne : 64 * p.f1.f0 + p.f1.f1 ≠ 64 * e.f1.f0 + e.f1.f1 := fun h => c2 (inj.1 h)
      by_cases q : 64 * p.f1.f0 + p.f1.f1 < 64 * e.f1.f0 + e.f1.f1
      · simp [q]
      · have q2 : 64 * e.f1.f0 + e.f1.f1 < 64 * p.f1.f0 + p.f1.f1 := by omega
        simp [q, q2]
  · rw [if_neg c]
    by_cases q : p.f0 < e.f0
    · simp [q]
    · have q2 : e.f0 < p.f0 := by omega
      simp [q, q2]
theorem oN_neg {a b c d : Int} : oN a b c d < 0 ↔ Cd a b < Cd c d := by
  unfold oN; split
  · simp; assumption
  · split <;> simp <;> omega
theorem oN_zero {a b c d : Int} : (oN a b c d == 0) = true ↔ Cd a b = Cd c d := by
  unfold oN; split
  · simp; omega
  · split <;> simp <;> omega
theorem Asc_gt : ∀ (xs : List S36) (last : Int), Asc xs last = true → ∀ x ∈ xs, last < Cd x.f0 x.f1
  | [], _, _, x, hx => by cases hx
  | y :: xs, last, h, x, hx => by
    simp only [Asc, Bool.and_eq_true, decide_eq_true_eq] at h
    rcases List.mem_cons.1 hx with rfl | hx
    · exact h.1
    · have := Asc_gt xs _ h.2 x hx
      omega
theorem Asc_mono : ∀ (xs : List S36) (last : Int), Asc xs last = true → ∀ (i j : Nat) (hi : i < j) (hj : j < xs.length), Cd (xs[i]'(by omega)).f0 (xs[i]'(by omega)).f1 < Cd (xs[j]).f0 (xs[j]).f1
  | [], _, _, i, j, hi, hj => by simp at hj
  | x :: xs, last, h, i, j, hi, hj => by
    simp only [Asc, Bool.and_eq_true, decide_eq_true_eq] at h
    cases j with
    | zero => omega
    | succ j =>
      cases i with
      | zero =>
        simp only [List.getElem_cons_zero, List.getElem_cons_succ]
        exact Asc_gt xs _ h.2 _ (List.getElem_mem _)
      | succ i =>
        simp only [List.getElem_cons_succ]
        exact Asc_mono xs _ h.2 i j (by omega) (by simpa using hj)
theorem bsf_l0 (xs : List S36) (a b : Int) (hA : Asc xs (-1) = true) (ht : nOk a b = true) : ∀ (d k : Nat) (i j : Nat), j - i ≤ d → i ≤ j → j ≤ xs.length → (∀ q (h : q < xs.length), q < i → Cd (xs[q]).f0 (xs[q]).f1 < Cd a b) → (∀ q (h : q < xs.length), j ≤ q → Cd a b ≤ Cd (xs[q]).f0 (xs[q]).f1) → d < k →
    ∃ p, impl_bsf.l0 k xs a b i j = some (p, In xs a b) := by
  intro d
  induction d with
  | zero =>
    intro k i j hd hij hj h1 h2 hk
    obtain ⟨k, rfl⟩ : ∃ m, k = m + 1 := ⟨k - 1, by omega⟩
    obtain rfl : i = j := by omega
    simp only [impl_bsf.l0]
    rw [if_neg (by omega)]
    refine ⟨i, ?_⟩
    congr 2
    apply Bool.eq_iff_iff.2
    constructor
    · intro h
      by_cases c : (i : Int) < (xs.length : Int)
      · rw [if_pos c, rdT_at (by omega)] at h
        have e := oN_zero.1 h
        have o := Asc_ok xs (-1) (by omega) hA _ (List.getElem_mem (show i < xs.length by omega))
        have := Cd_inj o.1 ht
        unfold Cd at e
        rw [if_pos o.1, if_pos ht] at e
        have e2 := this.1 e
        unfold In
        rw [List.any_eq_true]
        exact ⟨_, List.getElem_mem (show i < xs.length by omega), by simp [e2.1, e2.2]⟩
      · rw [if_neg c] at h; cases h
    · intro h
      unfold In at h
      rw [List.any_eq_true] at h
      obtain ⟨x, hx, hxe⟩ := h
      obtain ⟨q, hq, rfl⟩ := List.mem_iff_getElem.1 hx
      simp at hxe
      have e : Cd (xs[q]).f0 (xs[q]).f1 = Cd a b := by rw [hxe.1, hxe.2]
      have hqi : i ≤ q := by
        rcases Nat.lt_or_ge q i with c | c
        · have := h1 q hq c; omega
        · exact c
      have : q = i := by
        rcases Nat.lt_or_ge i q with c | c
        · have := Asc_mono xs (-1) hA i q c hq
          have := h2 i (by omega) (Nat.le_refl _)
          omega
        · omega
      subst this
      rw [if_pos (by omega), rdT_at hq]
      exact oN_zero.2 e
  | succ d ih =>
    intro k i j hd hij hj h1 h2 hk
    by_cases c : i < j
    · obtain ⟨k, rfl⟩ : ∃ m, k = m + 1 := ⟨k - 1, by omega⟩
      simp only [impl_bsf.l0]
      have hh : ((i : Int) + (j : Int)) / 2 = (((i + j) / 2 : Nat) : Int) := by omega
      have hq : (i + j) / 2 < xs.length := by omega
      rw [if_pos (by omega), hh, rdT_at hq]
      by_cases c2 : oN (xs[(i + j) / 2]).f0 (xs[(i + j) / 2]).f1 a b < 0
      · rw [if_pos c2, show (((i + j) / 2 : Nat) : Int) + 1 = (((i + j) / 2 + 1 : Nat) : Int) by omega]
        have l := oN_neg.1 c2
        refine ih k _ j (by omega) (by omega) hj (fun q h hqi => ?_) h2 (by omega)
        rcases Nat.lt_or_ge q ((i + j) / 2) with c3 | c3
        · have := Asc_mono xs (-1) hA q _ c3 hq; omega
        · obtain rfl : q = (i + j) / 2 := by omega
          exact l
      · rw [if_neg c2]
        have l : Cd a b ≤ Cd (xs[(i + j) / 2]).f0 (xs[(i + j) / 2]).f1 := by
          rcases Int.lt_or_le (Cd (xs[(i + j) / 2]).f0 (xs[(i + j) / 2]).f1) (Cd a b) with q | q
          · exact absurd (oN_neg.2 q) c2
          · exact q
        refine ih k i _ (by omega) (by omega) (by omega) h1 (fun q h hqi => ?_) (by omega)
        rcases Nat.lt_or_ge ((i + j) / 2) q with c3 | c3
        · have := Asc_mono xs (-1) hA _ q c3 h; omega
        · obtain rfl : q = (i + j) / 2 := by omega
          exact l
    · exact ih k i j (by omega) hij hj h1 h2 (by omega)
theorem there_ok (xs : List S36) (a b : Int) (hA : Asc xs (-1) = true) (ht : nOk a b = true) (k : Nat) (hk : xs.length < k) : impl_nodeThere.f k xs a b = some (In xs a b) := by
  obtain ⟨p, hp⟩ := bsf_l0 xs a b hA ht xs.length k 0 xs.length (by omega) (by omega) (by omega) (fun q h hq => by omega) (fun q h hq => by omega) hk
  unfold impl_nodeThere.f impl_bsf.f
  rw [show ((0 : Nat) : Int) = 0 from rfl] at hp
  rw [hp]; rfl
/-- The edges' part of the program's function, where the nodes ascend. -/
theorem edgesOk_l0 (es : List S56) (ns : List S36) (hm : es.length ≤ 2097152) (hA : Asc ns (-1) = true) : ∀ (d k : Nat) (i : Nat) (p : Option S56) (m : List Int), i + d = es.length →
    (i = 0 ∧ p = none ∨ 0 < i ∧ ∃ h : i - 1 < es.length, Eo (es[i - 1]) = true ∧ p = some (es[i - 1])) → ns.length + d + 10 < k → impl_edgesOk.l0 k es ns m i = some (ER ns (es.drop i) p m) := by
  intro d
  induction d with
  | zero =>
    intro k i p m hd hl hk
    obtain ⟨k, rfl⟩ : ∃ m, k = m + 1 := ⟨k - 1, by omega⟩
    simp only [impl_edgesOk.l0]
    rw [if_neg (by omega), List.drop_of_length_le (by omega)]; rfl
  | succ d ih =>
    intro k i p m hd hl hk
    obtain ⟨k, rfl⟩ : ∃ m, k = m + 1 := ⟨k - 1, by omega⟩
    have hi : i < es.length := by omega
    simp only [impl_edgesOk.l0]
    rw [if_pos (by omega), if_pos (by omega), rdE_at hi, List.drop_eq_getElem_cons hi]
    simp only [ER]
    have eEo : EOk (es[i]).f0 (es[i]).f1.f0 (es[i]).f1.f1 (es[i]).f2.f0 (es[i]).f2.f1 = Eo es[i] := rfl
    rw [eEo]
    by_cases c : Eo es[i] = true
    · rw [if_pos c, if_pos c]
      obtain ⟨_, c1, c2, _⟩ := Eo_iff.1 c
      by_cases c7 : rd m (es[i]).f0 = 7
      · rw [if_pos c7, if_pos c7]
      · rw [if_neg c7, if_neg c7]
        simp only [there_ok ns _ _ hA c1 k (by omega), there_ok ns _ _ hA c2 k (by omega), Option.bind_some]
        have ih' := ih k (i + 1) (some es[i]) (m.set ((es[i]).f0).toNat (wrap64 (rd m (es[i]).f0 + 1))) (by omega) (.inr ⟨by omega, by simpa using hi, by simpa using c, by simp⟩) (by omega)
        rw [show ((i + 1 : Nat) : Int) = (i : Int) + 1 by omega] at ih'
        rw [w64 (x := (i : Int) + 1) (by omega), ih']
        have fin : (if In ns (es[i]).f1.f0 (es[i]).f1.f1 = true then (if In ns (es[i]).f2.f0 (es[i]).f2.f1 = true then some (ER ns (es.drop (i + 1)) (some es[i]) (m.set ((es[i]).f0).toNat (wrap64 (rd m (es[i]).f0 + 1)))) else some false) else some false) =
            some (if In ns (es[i]).f1.f0 (es[i]).f1.f1 = true then (if In ns (es[i]).f2.f0 (es[i]).f2.f1 = true then ER ns (es.drop (i + 1)) (some es[i]) (m.set ((es[i]).f0).toNat (wrap64 (rd m (es[i]).f0 + 1))) else false) else false) := by
          split
          · split <;> rfl
          · rfl
        rcases hl with ⟨h0, rfl⟩ | ⟨h0, h1, h2, rfl⟩
        · rw [if_neg (by omega), fin]; rfl
        · rw [if_pos (by omega), w64 (x := (i : Int) - 1) (by omega), if_pos (by omega), if_pos (by omega), show (i : Int) - 1 = ((i - 1 : Nat) : Int) by omega, rdE_at h1]
          obtain ⟨t, ht, hts⟩ := order_ok h2 c k (by omega)
          rw [ht]
          simp only [Option.bind_some]
          by_cases c3 : Lt es[i - 1] es[i] = true
          · rw [if_pos c3, if_neg (fun h => by rw [decide_eq_true h, c3] at hts; cases hts), fin]
          · rw [if_neg c3]
            rw [if_pos (by
              simp only [Bool.not_eq_true] at c3
              rw [c3] at hts
              simpa using hts)]
    · rw [if_neg c, if_neg c]
theorem iGraphOk_ok (ns : List S36) (es : List S56) (hn : ns.length ≤ 2097152) (hm : es.length ≤ 2097152) (k : Nat) (hk : 2 * ns.length + 2 * es.length + 100 < k) : impl_GraphOk.f k ns es = some (GOk ns es) := by
  have z : ∀ a : Nat, a < 8 → rd ([0, 0, 0, 0, 0, 0, 0, 0] : List Int) a = 0 := by
    intro a ha
    unfold rd
    rw [Int.toNat_natCast]
    rcases (show a = 0 ∨ a = 1 ∨ a = 2 ∨ a = 3 ∨ a = 4 ∨ a = 5 ∨ a = 6 ∨ a = 7 by omega) with rfl | rfl | rfl | rfl | rfl | rfl | rfl | rfl <;> rfl
  have h0 := nodesOk_l0 ns hn ns.length k 0 (-1) [0, 0, 0, 0, 0, 0, 0, 0] (by omega) (by omega)
  rw [List.drop_zero, show ((0 : Nat) : Int) = 0 from rfl, NR_eq ns (-1) _ (by omega) (by rfl) (fun a ha => by rw [z a ha]; omega)] at h0
  unfold impl_GraphOk.f impl_nodesOk.f impl_edgesOk.f GOk
  rw [h0]
  simp only [Option.bind_some]
  cases c1 : Asc ns (-1)
  · rfl
  · have h1 := edgesOk_l0 es ns hm c1 es.length k 0 none [0, 0, 0, 0, 0, 0, 0, 0] (by omega) (.inl ⟨rfl, rfl⟩) (by omega)
    rw [List.drop_zero, show ((0 : Nat) : Int) = 0 from rfl, ER_eq ns es none _ (by rfl) (fun a ha => by rw [z a ha]; omega)] at h1
    rw [h1]
    have q1 : ((List.range 8).all fun a => decide (rd ([0, 0, 0, 0, 0, 0, 0, 0] : List Int) a + cN a ns ≤ 5)) = (List.range 8).all fun a => decide (cN a ns ≤ 5) := by
      apply Bool.eq_iff_iff.2
      rw [List.all_eq_true, List.all_eq_true]
      constructor <;> intro h a ha <;> have := h a ha <;> have e := z a (List.mem_range.1 ha) <;> simp [e] at this ⊢ <;> omega
    have q2 : ((List.range 8).all fun a => decide (rd ([0, 0, 0, 0, 0, 0, 0, 0] : List Int) a + cE a es ≤ 7)) = (List.range 8).all fun a => decide (cE a es ≤ 7) := by
      apply Bool.eq_iff_iff.2
      rw [List.all_eq_true, List.all_eq_true]
      constructor <;> intro h a ha <;> have := h a ha <;> have e := z a (List.mem_range.1 ha) <;> simp [e] at this ⊢ <;> omega
    have q3 : Few ns es = (((List.range 8).all fun a => decide (cN a ns ≤ 5)) && ((List.range 8).all fun a => decide (cE a es ≤ 7))) := by
      unfold Few
      apply Bool.eq_iff_iff.2
      simp only [Bool.and_eq_true, List.all_eq_true]
      exact ⟨fun h => ⟨fun a ha => (h a ha).1, fun a ha => (h a ha).2⟩, fun h a ha => ⟨h.1 a ha, h.2 a ha⟩⟩
    rw [q1, q2, q3]
    cases ((List.range 8).all fun a => decide (cN a ns ≤ 5)) <;> cases ((List.range 8).all fun a => decide (cE a es ≤ 7)) <;> cases EAsc ns es none <;> rfl

/-- A node's number. -/
def cd (x : S36) : Int := Cd x.f0 x.f1
/-- Nodes ascend. -/
def SA (xs : List S36) : Prop := xs.Pairwise fun x y => cd x < cd y
theorem cd_inj {x y : S36} (hx : nOk x.f0 x.f1 = true) (hy : nOk y.f0 y.f1 = true) (h : cd x = cd y) : x = y := by
  unfold cd Cd at h
  rw [if_pos hx, if_pos hy] at h
  obtain ⟨a, b⟩ := x
  obtain ⟨c, d⟩ := y
  have := (Cd_inj hx hy).1 h
  simp only [S36.mk.injEq]
  exact this
theorem eqN {x p : S36} : (x.f0 == p.f0 && (x.f1 == p.f1)) = true ↔ x = p := by
  obtain ⟨a, b⟩ := x
  obtain ⟨c, d⟩ := p
  simp
theorem w1n (i : Nat) (h : i ≤ 1099511627776) : wrap64 ((i : Int) + 1) = ((i + 1 : Nat) : Int) := by rw [w64 (x := (i : Int) + 1) (by omega)]; omega
/-- A node put into a row, ahead of the first that is not less. -/
def putN (xs : List S36) (x : S36) : List S36 := xs.takeWhile (fun y => decide (cd y < cd x)) ++ x :: xs.dropWhile (fun y => decide (cd y < cd x))
theorem l2Code_ok {a b : Int} (h : nOk a b = true) : spec_l2Code.f a b = some (Cd a b) := by
  unfold spec_l2Code.f Cd
  have := nOk_iff.1 h
  rw [if_pos h, w64 (x := a * 64) (by omega), w64 (x := a * 64 + b) (by omega)]
  congr 1; omega
theorem tw_take (p : S36 → Bool) : ∀ (xs : List S36) (i : Nat), i ≤ xs.length → (∀ j (h : j < xs.length), j < i → p xs[j] = true) → (∀ h : i < xs.length, p xs[i] = false) → xs.takeWhile p = xs.take i ∧ xs.dropWhile p = xs.drop i
  | [], i, hi, _, _ => by simp
  | x :: xs, 0, _, _, h => by
    have := h (by simp)
    simp only [List.getElem_cons_zero] at this
    simp [List.takeWhile_cons, List.dropWhile_cons, this]
  | x :: xs, i + 1, hi, h1, h2 => by
    have h0 := h1 0 (by simp) (by omega)
    simp only [List.getElem_cons_zero] at h0
    obtain ⟨e1, e2⟩ := tw_take p xs i (by simpa using hi) (fun j hj hji => by
      have := h1 (j + 1) (by simp; omega) (by omega)
      simpa using this) (fun h => by
      have := h2 (by simp; omega)
      simpa using this)
    simp [List.takeWhile_cons, List.dropWhile_cons, h0, e1, e2]
theorem put_l0 (xs : List S36) (es : List S56) (x : S36) (hm : xs.length ≤ 2097152) (ho : ∀ y ∈ xs, nOk y.f0 y.f1 = true) (hx : nOk x.f0 x.f1 = true) : ∀ (d k i : Nat), i + d = xs.length → (∀ j (h : j < xs.length), j < i → decide (cd xs[j] < cd x) = true) → d < k →
    spec_l2PutNode.l0 k (i : Int) xs es x.f0 x.f1 = some (putN xs x, es) := by
  have fin : ∀ i, i ≤ xs.length → xs.takeWhile (fun y => decide (cd y < cd x)) = xs.take i → xs.dropWhile (fun y => decide (cd y < cd x)) = xs.drop i →
      putN xs x = xs.take i ++ [(⟨x.f0, x.f1⟩ : S36)] ++ (([] : List S36) ++ xs.drop i) := by
    intro i _ e1 e2
    unfold putN
    rw [e1, e2]; simp
  intro d
  induction d with
  | zero =>
    intro k i hd hlt hk
    obtain ⟨k, rfl⟩ : ∃ q, k = q + 1 := ⟨k - 1, by omega⟩
    obtain ⟨e1, e2⟩ := tw_take (fun y => decide (cd y < cd x)) xs i (by omega) hlt (fun h => by omega)
    have l1 : (xs.take i).length ≤ 2097152 := by rw [List.length_take]; omega
    have l2 : (xs.drop i).length ≤ 2097152 := by rw [List.length_drop]; omega
    rw [spec_l2PutNode.l0, fin i (by omega) e1 e2]
    rw [if_neg (by omega)]
    simp only [Option.bind_some, Int.toNat_natCast, List.nil_append, List.length_nil]
    rw [if_pos (by omega), if_pos (by omega), if_pos (by omega), if_pos (by omega), if_pos (by simp; omega)]
  | succ d ih =>
    intro k i hd hlt hk
    obtain ⟨k, rfl⟩ : ∃ q, k = q + 1 := ⟨k - 1, by omega⟩
    have hi : i < xs.length := by omega
    rw [spec_l2PutNode.l0]
    rw [if_pos (by omega), if_pos (by omega), rdT_at hi, l2Code_ok (ho _ (List.getElem_mem hi)), l2Code_ok hx]
    simp only [Option.bind_some]
    by_cases c : Cd xs[i].f0 xs[i].f1 < Cd x.f0 x.f1
    · rw [if_pos c, w1n i (by omega)]
      exact ih k (i + 1) (by omega) (fun j hj hji => by
        rcases Nat.lt_or_eq_of_le (Nat.lt_succ_iff.1 hji) with h | h
        · exact hlt j hj h
        · subst h; exact decide_eq_true c) (by omega)
    · rw [if_neg c]
      obtain ⟨e1, e2⟩ := tw_take (fun y => decide (cd y < cd x)) xs i (by omega) hlt (fun h => decide_eq_false c)
      have l1 : (xs.take i).length ≤ 2097152 := by rw [List.length_take]; omega
      have l2 : (xs.drop i).length ≤ 2097152 := by rw [List.length_drop]; omega
      rw [fin i (by omega) e1 e2]
      simp only [Int.toNat_natCast, List.nil_append, List.length_nil]
      rw [if_pos (by omega), if_pos (by omega), if_pos (by omega), if_pos (by simp; omega)]
theorem putN_len (xs : List S36) (x : S36) : (putN xs x).length = xs.length + 1 := by
  have h := congrArg List.length (List.takeWhile_append_dropWhile (p := fun y => decide (cd y < cd x)) (l := xs))
  rw [List.length_append] at h
  unfold putN
  rw [List.length_append, List.length_cons]; omega
theorem In_mem {ns : List S36} {x : S36} : In ns x.f0 x.f1 = true ↔ x ∈ ns := by
  unfold In
  rw [List.any_eq_true]
  constructor
  · rintro ⟨y, hy, e⟩
    exact (eqN.1 e) ▸ hy
  · intro h
    exact ⟨x, h, by simp⟩
theorem Asc_SA {ns : List S36} {l : Int} (h : Asc ns l = true) : SA ns :=
  List.pairwise_iff_getElem.2 fun i j hi hj hij => Asc_mono ns l h i j hij hj
theorem GOk_parts {ns : List S36} {es : List S56} (h : GOk ns es = true) : Asc ns (-1) = true ∧ EAsc ns es none = true ∧ ns.length ≤ 40 ∧ es.length ≤ 56 := by
  simp only [GOk, Bool.and_eq_true] at h
  exact ⟨h.1, h.2.1, Few_len h.2.2 h.1, Few_lenE h.2.2 h.2.1⟩
/-- Ends of edges of a right graph are right, and among its nodes. -/
theorem EAsc_in (ns : List S36) : ∀ (es : List S56) (p : Option S56), EAsc ns es p = true → ∀ e ∈ es, In ns e.f1.f0 e.f1.f1 = true ∧ In ns e.f2.f0 e.f2.f1 = true
  | [], _, _, e, he => by simp at he
  | x :: es, p, h, e, he => by
    simp only [EAsc, Bool.and_eq_true] at h
    rcases List.mem_cons.1 he with rfl | he
    · exact ⟨h.2.2.1, h.2.2.2.1⟩
    · exact EAsc_in ns es _ h.2.2.2.2 e he

/-- The binary search of a row whose numbers ascend. -/
theorem bs_gen (n : Nat) (key : Nat → Int) (t : Int) (mono : ∀ i j, i < j → j < n → key i < key j) (L : Nat → Int → Int → Option (Int × Bool)) (c : Int → Prop) [DecidablePred c] (z : Int → Bool)
    (hc : ∀ m : Nat, m < n → (c (m : Int) ↔ key m < t)) (hz : ∀ m : Nat, m < n → z (m : Int) = decide (key m = t))
    (hL : ∀ k i j, L (k + 1) i j = if i < j then (if c ((i + j) / 2) then L k ((i + j) / 2 + 1) j else L k i ((i + j) / 2)) else some (i, if i < (n : Int) then z i else false)) :
    ∀ (d k : Nat) (i j : Nat), j - i ≤ d → i ≤ j → j ≤ n → (∀ q, q < n → q < i → key q < t) → (∀ q, q < n → j ≤ q → t ≤ key q) → d < k →
    ∃ p : Nat, p ≤ n ∧ (∀ q, q < n → q < p → key q < t) ∧ (∀ q, q < n → p ≤ q → t ≤ key q) ∧ L k i j = some ((p : Int), decide (p < n ∧ key p = t)) := by
  intro d
  induction d with
  | zero =>
    intro k i j hd hij hj h1 h2 hk
    obtain ⟨k, rfl⟩ : ∃ m, k = m + 1 := ⟨k - 1, by omega⟩
    obtain rfl : i = j := by omega
    refine ⟨i, hj, h1, h2, ?_⟩
    rw [hL, if_neg (by omega)]
    by_cases h : i < n
    · rw [if_pos (by omega), hz i h]; simp [h]
    · rw [if_neg (by omega)]; simp [h]
  | succ d ih =>
    intro k i j hd hij hj h1 h2 hk
    by_cases h : i < j
    · obtain ⟨k, rfl⟩ : ∃ m, k = m + 1 := ⟨k - 1, by omega⟩
      have hh : ((i : Int) + (j : Int)) / 2 = (((i + j) / 2 : Nat) : Int) := by omega
      have hq : (i + j) / 2 < n := by omega
      rw [hL, if_pos (by omega), hh]
      by_cases c2 : c (((i + j) / 2 : Nat) : Int)
      · rw [if_pos c2, show (((i + j) / 2 : Nat) : Int) + 1 = (((i + j) / 2 + 1 : Nat) : Int) by omega]
        have l := (hc _ hq).1 c2
        refine ih k _ j (by omega) (by omega) hj (fun q h hqi => ?_) h2 (by omega)
        rcases Nat.lt_or_ge q ((i + j) / 2) with c3 | c3
        · have := mono q _ c3 hq; omega
        · obtain rfl : q = (i + j) / 2 := by omega
          exact l
      · rw [if_neg c2]
        have l : t ≤ key ((i + j) / 2) := by
          rcases Int.lt_or_le (key ((i + j) / 2)) t with q | q
          · exact absurd ((hc _ hq).2 q) c2
          · exact q
        refine ih k i _ (by omega) (by omega) (by omega) h1 (fun q h hqi => ?_) (by omega)
        rcases Nat.lt_or_ge ((i + j) / 2) q with c3 | c3
        · have := mono _ q c3 h; omega
        · obtain rfl : q = (i + j) / 2 := by omega
          exact l
    · exact ih k i j (by omega) hij hj h1 h2 (by omega)
theorem filter_out {α : Type} (p : α → Bool) : ∀ (l : List α) (i : Nat) (h : i < l.length), p l[i] = false → (∀ j (h : j < l.length), j ≠ i → p l[j] = true) → l.filter p = l.take i ++ l.drop (i + 1)
  | [], i, h, _, _ => by simp at h
  | x :: xs, 0, h, h1, h2 => by
    simp only [List.getElem_cons_zero] at h1
    rw [List.filter_cons_of_neg (by simp [h1])]
    simp only [List.take_zero, List.nil_append, Nat.zero_add, List.drop_succ_cons, List.drop_zero]
    rw [List.filter_eq_self]
    intro y hy
    obtain ⟨j, hj, rfl⟩ := List.getElem_of_mem hy
    have := h2 (j + 1) (by simp; omega) (by omega)
    simpa using this
  | x :: xs, i + 1, h, h1, h2 => by
    have h0 := h2 0 (by simp) (by omega)
    simp only [List.getElem_cons_zero] at h0
    rw [List.filter_cons_of_pos h0, filter_out p xs i (by simpa using h) (by simpa using h1) (fun j hj hji => by
      have := h2 (j + 1) (by simp; omega) (by omega)
      simpa using this)]
    simp
theorem tw_gen {α : Type} (p : α → Bool) : ∀ (xs : List α) (i : Nat), i ≤ xs.length → (∀ j (h : j < xs.length), j < i → p xs[j] = true) → (∀ h : i < xs.length, p xs[i] = false) → xs.takeWhile p = xs.take i ∧ xs.dropWhile p = xs.drop i
  | [], i, hi, _, _ => by simp
  | x :: xs, 0, _, _, h => by
    have := h (by simp)
    simp only [List.getElem_cons_zero] at this
    simp [List.takeWhile_cons, List.dropWhile_cons, this]
  | x :: xs, i + 1, hi, h1, h2 => by
    have h0 := h1 0 (by simp) (by omega)
    simp only [List.getElem_cons_zero] at h0
    obtain ⟨e1, e2⟩ := tw_gen p xs i (by simpa using hi) (fun j hj hji => by
      have := h1 (j + 1) (by simp; omega) (by omega)
      simpa using this) (fun h => by
      have := h2 (by simp; omega)
      simpa using this)
    simp [List.takeWhile_cons, List.dropWhile_cons, h0, e1, e2]

/-- An edge's number among all. -/
def ek (e : S56) : Int := e.f0 * 1048576 + (64 * e.f1.f0 + e.f1.f1) * 1024 + (64 * e.f2.f0 + e.f2.f1)
theorem Cd_pos {a b : Int} (h : nOk a b = true) : Cd a b = 64 * a + b := by unfold Cd; rw [if_pos h]
theorem ek_inj {p e : S56} (hp : Eo p = true) (he : Eo e = true) (h : ek p = ek e) : p = e := by
  obtain ⟨p0, p1, p2, _⟩ := Eo_iff.1 hp
  obtain ⟨e0, e1, e2, _⟩ := Eo_iff.1 he
  have p1 := nOk_iff.1 p1
  have p2 := nOk_iff.1 p2
  have e1 := nOk_iff.1 e1
  have e2 := nOk_iff.1 e2
  unfold ek at h
  obtain ⟨x0, ⟨x1, x2⟩, ⟨x3, x4⟩⟩ := p
  obtain ⟨y0, ⟨y1, y2⟩, ⟨y3, y4⟩⟩ := e
  simp only at p0 p1 p2 e0 e1 e2 h
  obtain rfl : x0 = y0 := by omega
  obtain rfl : x1 = y1 := by omega
  obtain rfl : x2 = y2 := by omega
  obtain rfl : x3 = y3 := by omega
  obtain rfl : x4 = y4 := by omega
  rfl
theorem Lt_ek {p e : S56} (hp : Eo p = true) (he : Eo e = true) : Lt p e = true ↔ ek p < ek e := by
  obtain ⟨p0, p1, p2, _⟩ := Eo_iff.1 hp
  obtain ⟨e0, e1, e2, _⟩ := Eo_iff.1 he
  unfold Lt ek
  rw [Cd_pos p1, Cd_pos p2, Cd_pos e1, Cd_pos e2]
  have p1 := nOk_iff.1 p1
  have p2 := nOk_iff.1 p2
  have e1 := nOk_iff.1 e1
  have e2 := nOk_iff.1 e2
  by_cases c : p.f0 = e.f0
  · rw [if_pos c]
    by_cases c2 : p.f1.f0 = e.f1.f0 ∧ p.f1.f1 = e.f1.f1
    · rw [if_pos c2, decide_eq_true_eq]; omega
    · rw [if_neg c2, decide_eq_true_eq]; omega
  · rw [if_neg c, decide_eq_true_eq]; omega
theorem eO_ek {p e : S56} (hp : Eo p = true) (he : Eo e = true) : (eO p.f0 p.f1.f0 p.f1.f1 p.f2.f0 p.f2.f1 e.f0 e.f1.f0 e.f1.f1 e.f2.f0 e.f2.f1 < 0 ↔ ek p < ek e) ∧ (eO p.f0 p.f1.f0 p.f1.f1 p.f2.f0 p.f2.f1 e.f0 e.f1.f0 e.f1.f1 e.f2.f0 e.f2.f1 == 0) = decide (ek p = ek e) := by
  obtain ⟨p0, p1, p2, _⟩ := Eo_iff.1 hp
  obtain ⟨e0, e1, e2, _⟩ := Eo_iff.1 he
  unfold eO oN ek
  rw [Cd_pos p1, Cd_pos p2, Cd_pos e1, Cd_pos e2]
  have p1 := nOk_iff.1 p1
  have p2 := nOk_iff.1 p2
  have e1 := nOk_iff.1 e1
  have e2 := nOk_iff.1 e2
  have bA : 0 ≤ 64 * p.f1.f0 + p.f1.f1 ∧ 64 * p.f1.f0 + p.f1.f1 < 1024 := by omega
  have bB : 0 ≤ 64 * p.f2.f0 + p.f2.f1 ∧ 64 * p.f2.f0 + p.f2.f1 < 1024 := by omega
  have bC : 0 ≤ 64 * e.f1.f0 + e.f1.f1 ∧ 64 * e.f1.f0 + e.f1.f1 < 1024 := by omega
  have bD : 0 ≤ 64 * e.f2.f0 + e.f2.f1 ∧ 64 * e.f2.f0 + e.f2.f1 < 1024 := by omega
  clear p1 p2 e1 e2
  generalize 64 * p.f1.f0 + p.f1.f1 = A at *
  generalize 64 * p.f2.f0 + p.f2.f1 = B at *
  generalize 64 * e.f1.f0 + e.f1.f1 = C at *
  generalize 64 * e.f2.f0 + e.f2.f1 = D at *
  have key : ∀ v : Int, (v < 0 ↔ p.f0 * 1048576 + A * 1024 + B < e.f0 * 1048576 + C * 1024 + D) → (v = 0 ↔ p.f0 * 1048576 + A * 1024 + B = e.f0 * 1048576 + C * 1024 + D) → (v < 0 ↔ p.f0 * 1048576 + A * 1024 + B < e.f0 * 1048576 + C * 1024 + D) ∧ (v == 0) = decide (p.f0 * 1048576 + A * 1024 + B = e.f0 * 1048576 + C * 1024 + D) := by
    intro v h1 h2
    refine ⟨h1, ?_⟩
    apply Bool.eq_iff_iff.2
    rw [decide_eq_true_eq, ← h2]; simp
  apply key <;> (repeat' split) <;> omega
theorem EAsc_ek (ns : List S36) : ∀ (es : List S56) (p : Option S56), EAsc ns es p = true → (∀ q, p = some q → Eo q = true) → (∀ q, p = some q → ∀ e ∈ es, ek q < ek e) ∧ es.Pairwise (fun a b => ek a < ek b)
  | [], _, _, _ => ⟨fun _ _ e he => (by cases he), List.Pairwise.nil⟩
  | e :: es, p, h, hp => by
    simp only [EAsc, Bool.and_eq_true] at h
    obtain ⟨h1, h2, _, _, h3⟩ := h
    obtain ⟨k1, k2⟩ := EAsc_ek ns es (some e) h3 (fun q hq => by cases hq; exact h1)
    have k3 := k1 e rfl
    refine ⟨?_, List.pairwise_cons.2 ⟨k3, k2⟩⟩
    rintro q rfl x hx
    have h2 := (Lt_ek (hp q rfl) h1).1 h2
    rcases List.mem_cons.1 hx with rfl | hx
    · exact h2
    · have := k3 x hx; omega

/-- Where a node is to stand, and whether it is there. -/
theorem bsf_pl (ns : List S36) (hA : Asc ns (-1) = true) (x : S36) (hx : nOk x.f0 x.f1 = true) (k : Nat) (hk : ns.length < k) :
    ∃ p : Nat, p ≤ ns.length ∧ impl_bsf.f k ns x.f0 x.f1 = some ((p : Int), In ns x.f0 x.f1) ∧ putN ns x = ns.take p ++ x :: ns.drop p ∧
      (In ns x.f0 x.f1 = true → p < ns.length ∧ ns.filter (fun y => !(y.f0 == x.f0 && (y.f1 == x.f1))) = ns.take p ++ ns.drop (p + 1)) := by
  have hS := Asc_SA hA
  have hO := fun y hy => (Asc_ok ns (-1) (by omega) hA y hy).1
  obtain ⟨key, hkey⟩ : ∃ key : Nat → Int, key = fun i : Nat => cd (rd_T36 ns (i : Int)) := ⟨_, rfl⟩
  have kat : ∀ i (h : i < ns.length), key i = cd ns[i] := fun i h => by rw [hkey]; show cd (rd_T36 ns (i : Int)) = _; rw [rdT_at h]
  have mono : ∀ i j, i < j → j < ns.length → key i < key j := fun i j h1 h2 => by
    rw [kat i (by omega), kat j h2]; exact (List.pairwise_iff_getElem.1 hS) i j (by omega) h2 h1
  obtain ⟨p, hp, h1, h2, h3⟩ := bs_gen ns.length key (cd x) mono (fun k i j => impl_bsf.l0 k ns x.f0 x.f1 i j) (fun m : Int => oN (rd_T36 ns m).f0 (rd_T36 ns m).f1 x.f0 x.f1 < 0) (fun m : Int => oN (rd_T36 ns m).f0 (rd_T36 ns m).f1 x.f0 x.f1 == 0)
    (fun m hm => by rw [kat m hm, rdT_at hm]; exact oN_neg) (fun m hm => by rw [kat m hm, rdT_at hm]; exact Bool.eq_iff_iff.2 (by rw [decide_eq_true_eq]; exact oN_zero)) (fun k i j => rfl)
    ns.length k 0 ns.length (by omega) (by omega) (Nat.le_refl _) (fun q _ h => by omega) (fun q h1 h2 => by omega) hk
  have hIn : In ns x.f0 x.f1 = decide (p < ns.length ∧ key p = cd x) := by
    apply Bool.eq_iff_iff.2
    rw [In_mem, decide_eq_true_eq]
    constructor
    · intro h
      obtain ⟨m, hm, e⟩ := List.getElem_of_mem h
      have km : key m = cd x := by rw [kat m hm, e]
      have : ¬ m < p := fun q => by have := h1 m hm q; omega
      have : ¬ p < m := fun q => by have := mono p m q hm; have := h2 p (by omega) (Nat.le_refl _); omega
      obtain rfl : m = p := by omega
      exact ⟨hm, km⟩
    · rintro ⟨h, e⟩
      rw [kat p h] at e
      exact cd_inj (hO _ (List.getElem_mem h)) hx e ▸ List.getElem_mem h
  obtain ⟨e1, e2⟩ := tw_gen (fun y => decide (cd y < cd x)) ns p hp (fun j h hj => decide_eq_true (by have := h1 j h hj; rwa [kat j h] at this)) (fun h => decide_eq_false (by have := h2 p h (Nat.le_refl _); rw [kat p h] at this; omega))
  refine ⟨p, hp, ?_, ?_, fun hI => ?_⟩
  · rw [hIn]; exact h3
  · unfold putN; rw [e1, e2]
  · rw [hIn, decide_eq_true_eq] at hI
    refine ⟨hI.1, filter_out _ ns p hI.1 ?_ (fun j h hj => ?_)⟩
    · have e := hI.2
      rw [kat p hI.1] at e
      have := cd_inj (hO _ (List.getElem_mem hI.1)) hx e
      rw [this]; simp
    · rw [Bool.not_eq_true']
      apply Bool.eq_false_iff.2
      intro q
      have e := eqN.1 q
      have e2 := kat j h
      rw [e] at e2
      have e3 := hI.2
      rcases Nat.lt_or_gt_of_ne hj with c | c
      · have := mono j p c hI.1; omega
      · have := mono p j c h; omega
/-- An edge put into a row, ahead of the first that is not less. -/
def putE (xs : List S56) (x : S56) : List S56 := xs.takeWhile (fun y => decide (ek y < ek x)) ++ x :: xs.dropWhile (fun y => decide (ek y < ek x))
/-- One edge is the other. -/
def eqE (e x : S56) : Bool := e.f0 == x.f0 && ((e.f1.f0 == x.f1.f0 && (e.f1.f1 == x.f1.f1)) && (e.f2.f0 == x.f2.f0 && (e.f2.f1 == x.f2.f1)))
theorem eqE_iff {e x : S56} : eqE e x = true ↔ e = x := by
  obtain ⟨a, ⟨b, c⟩, ⟨d, f⟩⟩ := e
  obtain ⟨a', ⟨b', c'⟩, ⟨d', f'⟩⟩ := x
  simp [eqE]
/-- Where an edge is to stand, and whether it is there. -/
theorem bse_pl (ns : List S36) (es : List S56) (hA : EAsc ns es none = true) (x : S56) (hx : Eo x = true) (k : Nat) (hk : es.length < k) :
    ∃ p : Nat, p ≤ es.length ∧ impl_bse.f k es x.f0 x.f1.f0 x.f1.f1 x.f2.f0 x.f2.f1 = some ((p : Int), es.any fun y => eqE y x) ∧ putE es x = es.take p ++ x :: es.drop p ∧
      ((es.any fun y => eqE y x) = true → p < es.length ∧ es.filter (fun y => !eqE y x) = es.take p ++ es.drop (p + 1)) := by
  have hS := (EAsc_ek ns es none hA (fun q h => by cases h)).2
  have hO := EAsc_ok ns es none hA
  obtain ⟨key, hkey⟩ : ∃ key : Nat → Int, key = fun i : Nat => ek (rd_T56 es (i : Int)) := ⟨_, rfl⟩
  have kat : ∀ i (h : i < es.length), key i = ek es[i] := fun i h => by rw [hkey]; show ek (rd_T56 es (i : Int)) = _; rw [rdE_at h]
  have mono : ∀ i j, i < j → j < es.length → key i < key j := fun i j h1 h2 => by
    rw [kat i (by omega), kat j h2]; exact (List.pairwise_iff_getElem.1 hS) i j (by omega) h2 h1
  obtain ⟨p, hp, h1, h2, h3⟩ := bs_gen es.length key (ek x) mono (fun k i j => impl_bse.l0 k es x.f0 x.f1.f0 x.f1.f1 x.f2.f0 x.f2.f1 i j)
    (fun m : Int => eO (rd_T56 es m).f0 (rd_T56 es m).f1.f0 (rd_T56 es m).f1.f1 (rd_T56 es m).f2.f0 (rd_T56 es m).f2.f1 x.f0 x.f1.f0 x.f1.f1 x.f2.f0 x.f2.f1 < 0) (fun m : Int => eO (rd_T56 es m).f0 (rd_T56 es m).f1.f0 (rd_T56 es m).f1.f1 (rd_T56 es m).f2.f0 (rd_T56 es m).f2.f1 x.f0 x.f1.f0 x.f1.f1 x.f2.f0 x.f2.f1 == 0)
    (fun m hm => by rw [kat m hm, rdE_at hm]; exact (eO_ek (hO _ (List.getElem_mem hm)) hx).1) (fun m hm => by rw [kat m hm, rdE_at hm]; exact (eO_ek (hO _ (List.getElem_mem hm)) hx).2) (fun k i j => rfl)
    es.length k 0 es.length (by omega) (by omega) (Nat.le_refl _) (fun q _ h => by omega) (fun q h1 h2 => by omega) hk
  have hIn : (es.any fun y => eqE y x) = decide (p < es.length ∧ key p = ek x) := by
    apply Bool.eq_iff_iff.2
    rw [List.any_eq_true, decide_eq_true_eq]
    constructor
    · rintro ⟨y, hy, h⟩
      obtain rfl := eqE_iff.1 h
      obtain ⟨m, hm, e⟩ := List.getElem_of_mem hy
      have km : key m = ek y := by rw [kat m hm, e]
      have : ¬ m < p := fun q => by have := h1 m hm q; omega
      have : ¬ p < m := fun q => by have := mono p m q hm; have := h2 p (by omega) (Nat.le_refl _); omega
      obtain rfl : m = p := by omega
      exact ⟨hm, km⟩
    · rintro ⟨h, e⟩
      rw [kat p h] at e
      exact ⟨_, List.getElem_mem h, eqE_iff.2 (ek_inj (hO _ (List.getElem_mem h)) hx e)⟩
  obtain ⟨e1, e2⟩ := tw_gen (fun y => decide (ek y < ek x)) es p hp (fun j h hj => decide_eq_true (by have := h1 j h hj; rwa [kat j h] at this)) (fun h => decide_eq_false (by have := h2 p h (Nat.le_refl _); rw [kat p h] at this; omega))
  refine ⟨p, hp, ?_, ?_, fun hI => ?_⟩
  · rw [hIn]; exact h3
  · unfold putE; rw [e1, e2]
  · rw [hIn, decide_eq_true_eq] at hI
    refine ⟨hI.1, filter_out _ es p hI.1 ?_ (fun j h hj => ?_)⟩
    · have e := hI.2
      rw [kat p hI.1] at e
      have := ek_inj (hO _ (List.getElem_mem hI.1)) hx e
      rw [eqE_iff.2 this]; rfl
    · rw [Bool.not_eq_true']
      apply Bool.eq_false_iff.2
      intro q
      have e := eqE_iff.1 q
      have e2 := kat j h
      rw [e] at e2
      have e3 := hI.2
      rcases Nat.lt_or_gt_of_ne hj with c | c
      · have := mono j p c hI.1; omega
      · have := mono p j c h; omega

theorem markN_l0 (n : Nat) (a : Int) (ha : 0 ≤ a) (hm : a + 2 * n ≤ 100000000) : ∀ (d k : Nat) (ys : List S36) (i : Nat), ys.length = n → i + d = n → (∀ j, j < i → ys[j]? = some ⟨a + 2 * (j : Int), a + 2 * (j : Int) + 1⟩) → d < k →
    ∃ zs, laws_markNodeS.l0 k ys (a + 2 * i) i = some (a + 2 * n, zs) ∧ zs.length = n ∧ ∀ j : Nat, j < n → zs[j]? = some ⟨a + 2 * (j : Int), a + 2 * (j : Int) + 1⟩ := by
  intro d
  induction d with
  | zero =>
    intro k ys i hl hd hy hk
    obtain ⟨k, rfl⟩ : ∃ m, k = m + 1 := ⟨k - 1, by omega⟩
    simp only [laws_markNodeS.l0]
    rw [if_neg (by omega)]
    exact ⟨ys, by rw [show i = n by omega], hl, fun j hj => hy j (by omega)⟩
  | succ d ih =>
    intro k ys i hl hd hy hk
    obtain ⟨k, rfl⟩ : ∃ m, k = m + 1 := ⟨k - 1, by omega⟩
    simp only [laws_markNodeS.l0]
    rw [if_pos (by omega), if_pos (by omega)]
    simp only [Option.bind_some, Int.toNat_natCast]
    have e1 : (rd_T36 (ys.set i ⟨a + 2 * (i : Int), (rd_T36 ys i).f1⟩) i).f0 = a + 2 * (i : Int) := by
      unfold rd_T36
      rw [Int.toNat_natCast, List.getD_eq_getElem?_getD, List.getElem?_set_self (by omega)]; rfl
    rw [e1, List.set_set, w64 (x := a + 2 * (i : Int) + 1) (by omega), w64 (x := a + 2 * (i : Int) + 1 + 1) (by omega), w64 (x := (i : Int) + 1) (by omega)]
    have := ih k (ys.set i ⟨a + 2 * (i : Int), a + 2 * (i : Int) + 1⟩) (i + 1) (by simpa using hl) (by omega) (fun j hj => by
      by_cases e : j = i
      · subst e; rw [List.getElem?_set_self (by omega)]
      · rw [List.getElem?_set_ne (by omega)]; exact hy j (by omega)) (by omega)
    rw [show a + 2 * ((i + 1 : Nat) : Int) = a + 2 * (i : Int) + 1 + 1 by omega, show ((i + 1 : Nat) : Int) = (i : Int) + 1 by omega] at this
    exact this

theorem heldN_l0 (zs : List S36) (a : Int) (ha : 0 ≤ a) (hm : a + 2 * zs.length ≤ 100000000) (hz : ∀ j : Nat, j < zs.length → zs[j]? = some ⟨a + 2 * (j : Int), a + 2 * (j : Int) + 1⟩) : ∀ (d k : Nat) (i : Nat), i + d = zs.length → d < k → laws_heldNodeS.l0 k zs (a + 2 * i) i = some (a + 2 * zs.length) := by
  intro d
  induction d with
  | zero =>
    intro k i hd hk
    obtain ⟨k, rfl⟩ : ∃ m, k = m + 1 := ⟨k - 1, by omega⟩
    simp only [laws_heldNodeS.l0]
    rw [if_neg (by omega), show i = zs.length by omega]
  | succ d ih =>
    intro k i hd hk
    obtain ⟨k, rfl⟩ : ∃ m, k = m + 1 := ⟨k - 1, by omega⟩
    simp only [laws_heldNodeS.l0]
    have er : rd_T36 zs (i : Int) = ⟨a + 2 * (i : Int), a + 2 * (i : Int) + 1⟩ := by unfold rd_T36; rw [Int.toNat_natCast, List.getD_eq_getElem?_getD, hz i (by omega)]; rfl
    rw [if_pos (by omega), if_pos (by omega), er, if_pos rfl, w64 (x := a + 2 * (i : Int) + 1) (by omega), if_pos rfl, w64 (x := a + 2 * (i : Int) + 1 + 1) (by omega), w64 (x := (i : Int) + 1) (by omega)]
    have := ih k (i + 1) (by omega) (by omega)
    rw [show a + 2 * ((i + 1 : Nat) : Int) = a + 2 * (i : Int) + 1 + 1 by omega, show ((i + 1 : Nat) : Int) = (i : Int) + 1 by omega] at this
    exact this

/-- The marks of an edge. -/
def mE (a : Int) : S56 := ⟨a, ⟨a + 1, a + 2⟩, ⟨a + 3, a + 4⟩⟩
theorem rdE_set (ys : List S56) (i : Nat) (x : S56) (h : i < ys.length) : rd_T56 (ys.set i x) (i : Int) = x := by
  unfold rd_T56
  rw [Int.toNat_natCast, List.getD_eq_getElem?_getD, List.getElem?_set_self h]; rfl
theorem markE_l0 (n : Nat) (a : Int) (ha : 0 ≤ a) (hm : a + 5 * n ≤ 100000000) : ∀ (d k : Nat) (ys : List S56) (i : Nat), ys.length = n → i + d = n → (∀ j, j < i → ys[j]? = some (mE (a + 5 * (j : Int)))) → d < k →
    ∃ zs, laws_markEdgeS.l0 k ys (a + 5 * i) i = some (a + 5 * n, zs) ∧ zs.length = n ∧ ∀ j : Nat, j < n → zs[j]? = some (mE (a + 5 * (j : Int))) := by
  intro d
  induction d with
  | zero =>
    intro k ys i hl hd hy hk
    obtain ⟨k, rfl⟩ : ∃ m, k = m + 1 := ⟨k - 1, by omega⟩
    simp only [laws_markEdgeS.l0]
    rw [if_neg (by omega)]
    exact ⟨ys, by rw [show i = n by omega], hl, fun j hj => hy j (by omega)⟩
  | succ d ih =>
    intro k ys i hl hd hy hk
    obtain ⟨k, rfl⟩ : ∃ m, k = m + 1 := ⟨k - 1, by omega⟩
    simp only [laws_markEdgeS.l0]
    rw [if_pos (by omega), if_pos (by omega)]
    simp only [Option.bind_some, Int.toNat_natCast, List.set_set, rdE_set ys i _ (by omega)]
    rw [w64 (x := a + 5 * (i : Int) + 1) (by omega), w64 (x := a + 5 * (i : Int) + 1 + 1) (by omega), w64 (x := a + 5 * (i : Int) + 1 + 1 + 1) (by omega), w64 (x := a + 5 * (i : Int) + 1 + 1 + 1 + 1) (by omega), w64 (x := a + 5 * (i : Int) + 1 + 1 + 1 + 1 + 1) (by omega), w64 (x := (i : Int) + 1) (by omega)]
    have := ih k (ys.set i (mE (a + 5 * (i : Int)))) (i + 1) (by simpa using hl) (by omega) (fun j hj => by
      by_cases e : j = i
      · subst e; rw [List.getElem?_set_self (by omega)]
      · rw [List.getElem?_set_ne (by omega)]; exact hy j (by omega)) (by omega)
    rw [show a + 5 * ((i + 1 : Nat) : Int) = a + 5 * (i : Int) + 1 + 1 + 1 + 1 + 1 by omega, show ((i + 1 : Nat) : Int) = (i : Int) + 1 by omega] at this
    have e : mE (a + 5 * (i : Int)) = ⟨a + 5 * (i : Int), ⟨a + 5 * (i : Int) + 1, a + 5 * (i : Int) + 1 + 1⟩, ⟨a + 5 * (i : Int) + 1 + 1 + 1, a + 5 * (i : Int) + 1 + 1 + 1 + 1⟩⟩ := by
      unfold mE; rw [show a + 5 * (i : Int) + 2 = a + 5 * (i : Int) + 1 + 1 by omega, show a + 5 * (i : Int) + 3 = a + 5 * (i : Int) + 1 + 1 + 1 by omega, show a + 5 * (i : Int) + 4 = a + 5 * (i : Int) + 1 + 1 + 1 + 1 by omega]
    rw [e] at this
    exact this

theorem heldE_l0 (zs : List S56) (a : Int) (ha : 0 ≤ a) (hm : a + 5 * zs.length ≤ 100000000) (hz : ∀ j : Nat, j < zs.length → zs[j]? = some (mE (a + 5 * (j : Int)))) : ∀ (d k : Nat) (i : Nat), i + d = zs.length → d < k → laws_heldEdgeS.l0 k zs (a + 5 * i) i = some (a + 5 * zs.length) := by
  intro d
  induction d with
  | zero =>
    intro k i hd hk
    obtain ⟨k, rfl⟩ : ∃ m, k = m + 1 := ⟨k - 1, by omega⟩
    simp only [laws_heldEdgeS.l0]
    rw [if_neg (by omega), show i = zs.length by omega]
  | succ d ih =>
    intro k i hd hk
    obtain ⟨k, rfl⟩ : ∃ m, k = m + 1 := ⟨k - 1, by omega⟩
    simp only [laws_heldEdgeS.l0]
    have er : rd_T56 zs (i : Int) = mE (a + 5 * (i : Int)) := by unfold rd_T56; rw [Int.toNat_natCast, List.getD_eq_getElem?_getD, hz i (by omega)]; rfl
    rw [if_pos (by omega), if_pos (by omega), er]
    unfold mE
    simp only []
    rw [if_pos trivial, w64 (x := a + 5 * (i : Int) + 1) (by omega), w64 (x := a + 5 * (i : Int) + 1 + 1) (by omega), w64 (x := a + 5 * (i : Int) + 1 + 1 + 1) (by omega), w64 (x := a + 5 * (i : Int) + 1 + 1 + 1 + 1) (by omega), w64 (x := a + 5 * (i : Int) + 1 + 1 + 1 + 1 + 1) (by omega), w64 (x := (i : Int) + 1) (by omega), if_pos (by omega), if_pos (by omega), if_pos (by omega), if_pos (by omega)]
    have := ih k (i + 1) (by omega) (by omega)
    rw [show a + 5 * ((i + 1 : Nat) : Int) = a + 5 * (i : Int) + 1 + 1 + 1 + 1 + 1 by omega, show ((i + 1 : Nat) : Int) = (i : Int) + 1 by omega] at this
    exact this

/-- What is laid as marks in a graph is held. -/
theorem markGraph_ok (ns : List S36) (es : List S56) (hn : ns.length ≤ 2097152) (hm : es.length ≤ 2097152) (k : Nat) (hk : ns.length + es.length < k) : ∃ e zs ys, laws_markGraph.f k ns es 1 = some (e, zs, ys) ∧ 0 ≤ e ∧ ∀ q, ns.length + es.length < q → laws_heldGraph.f q zs ys 1 = some e := by
  obtain ⟨zs, h1, h2, h3⟩ := markN_l0 ns.length 1 (by omega) (by omega) ns.length k ns 0 rfl (by omega) (fun j hj => by omega) (by omega)
  obtain ⟨ys, g1, g2, g3⟩ := markE_l0 es.length (1 + 2 * ns.length) (by omega) (by omega) es.length k es 0 rfl (by omega) (fun j hj => by omega) (by omega)
  refine ⟨1 + 2 * (ns.length : Int) + 5 * (es.length : Int), zs, ys, ?_, by omega, fun q hq => ?_⟩
  · unfold laws_markGraph.f laws_markNodeS.f laws_markEdgeS.f
    simp at h1 g1
    rw [h1]; simp only [Option.bind_some]; rw [g1]; rfl
  · have a1 := heldN_l0 zs 1 (by omega) (by omega) (fun j hj => h3 j (by omega)) zs.length q 0 (by omega) (by omega)
    have b1 := heldE_l0 ys (1 + 2 * ns.length) (by omega) (by omega) (fun j hj => g3 j (by omega)) ys.length q 0 (by omega) (by omega)
    unfold laws_heldGraph.f laws_heldNodeS.f laws_heldEdgeS.f
    simp at a1 b1
    rw [h2] at a1
    rw [g2] at b1
    rw [a1]; simp only [Option.bind_some]
    rw [if_neg (by omega), b1]; simp only [Option.bind_some]
    rw [if_neg (by omega)]

/-- The label of an operation, or -1. -/
def OL (t a b l c d e f : Int) : Int := if t = 1 ∨ t = 4 then (if nOk a b = true ∧ (l = 0 ∧ (c = 0 ∧ d = 0) ∧ e = 0 ∧ f = 0) then a else -1) else if t = 2 ∨ t = 3 then (if EOk l c d e f = true ∧ a = 0 ∧ b = 0 then l else -1) else -1
theorem OL_n (a b l c d e f : Int) : (if nOk a b = true then (if (l == 0 && ((c == 0 && (d == 0)) && (e == 0 && (f == 0)))) = true then (some a) else (some (-1))) else (some (-1))) = some (if nOk a b = true ∧ (l = 0 ∧ (c = 0 ∧ d = 0) ∧ e = 0 ∧ f = 0) then a else -1) := by
  by_cases h1 : nOk a b = true
  · by_cases h2 : l = 0 ∧ (c = 0 ∧ d = 0) ∧ e = 0 ∧ f = 0
    · rw [if_pos h1, if_pos (by simp [h2]), if_pos ⟨h1, h2⟩]
    · rw [if_pos h1, if_neg (by simpa using h2), if_neg (fun q => h2 q.2)]
  · rw [if_neg h1, if_neg (fun q => h1 q.1)]
theorem OL_e (a b l c d e f : Int) : (if EOk l c d e f = true then (if (a == 0 && (b == 0)) = true then (some l) else (some (-1))) else (some (-1))) = some (if EOk l c d e f = true ∧ a = 0 ∧ b = 0 then l else -1) := by
  by_cases h1 : EOk l c d e f = true
  · by_cases h2 : a = 0 ∧ b = 0
    · rw [if_pos h1, if_pos (by simp [h2]), if_pos ⟨h1, h2⟩]
    · rw [if_pos h1, if_neg (by simpa using h2), if_neg (fun q => h2 q.2)]
  · rw [if_neg h1, if_neg (fun q => h1 q.1)]
theorem iOL (k : Nat) (hk : 2 ≤ k) (t a b l c d e f : Int) : impl_OpLabel.f k t a b l c d e f = some (OL t a b l c d e f) := by
  obtain ⟨k, rfl⟩ : ∃ m, k = m + 2 := ⟨k - 2, by omega⟩
  unfold impl_OpLabel.f OL
  by_cases h1 : t = 1
  · subst h1; rw [if_pos rfl, if_pos (.inl rfl), impl_OpLabel.j0, if_pos (show ((1 : Int) == 1) = true from rfl), iN]; exact OL_n a b l c d e f
  · rw [if_neg h1]
    by_cases h4 : t = 4
    · subst h4; rw [impl_OpLabel.j0, if_pos (show ((4 : Int) == 4) = true from rfl), if_pos (show (4 : Int) = 1 ∨ (4 : Int) = 4 from .inr rfl), iN]; exact OL_n a b l c d e f
    · rw [impl_OpLabel.j0, if_neg (by simpa using h4), if_neg (by omega : ¬ (t = 1 ∨ t = 4))]
      by_cases h2 : t = 2
      · subst h2; rw [if_pos rfl, impl_OpLabel.j1, if_pos (show ((2 : Int) == 2) = true from rfl), if_pos (show (2 : Int) = 2 ∨ (2 : Int) = 3 from .inl rfl)]; exact OL_e a b l c d e f
      · rw [if_neg h2, impl_OpLabel.j1]
        by_cases h3 : t = 3
        · subst h3; rw [if_pos (show ((3 : Int) == 3) = true from rfl), if_pos (show (3 : Int) = 2 ∨ (3 : Int) = 3 from .inr rfl)]; exact OL_e a b l c d e f
        · rw [if_neg (by simpa using h3), if_neg (by omega)]
theorem sOL (k : Nat) (hk : 2 ≤ k) (t a b l c d e f : Int) : spec_OpLabel.f k t a b l c d e f = some (OL t a b l c d e f) := by
  obtain ⟨k, rfl⟩ : ∃ m, k = m + 2 := ⟨k - 2, by omega⟩
  unfold spec_OpLabel.f OL
  by_cases h1 : t = 1
  · subst h1; rw [if_pos rfl, if_pos (.inl rfl), spec_OpLabel.j0, if_pos (show ((1 : Int) == 1) = true from rfl), sN]; exact OL_n a b l c d e f
  · rw [if_neg h1]
    by_cases h4 : t = 4
    · subst h4; rw [spec_OpLabel.j0, if_pos (show ((4 : Int) == 4) = true from rfl), if_pos (show (4 : Int) = 1 ∨ (4 : Int) = 4 from .inr rfl), sN]; exact OL_n a b l c d e f
    · rw [spec_OpLabel.j0, if_neg (by simpa using h4), if_neg (by omega : ¬ (t = 1 ∨ t = 4))]
      by_cases h2 : t = 2
      · subst h2; rw [if_pos rfl, spec_OpLabel.j1, if_pos (show ((2 : Int) == 2) = true from rfl), if_pos (show (2 : Int) = 2 ∨ (2 : Int) = 3 from .inl rfl)]; exact OL_e a b l c d e f
      · rw [if_neg h2, spec_OpLabel.j1]
        by_cases h3 : t = 3
        · subst h3; rw [if_pos (show ((3 : Int) == 3) = true from rfl), if_pos (show (3 : Int) = 2 ∨ (3 : Int) = 3 from .inr rfl)]; exact OL_e a b l c d e f
        · rw [if_neg (by simpa using h3), if_neg (by omega)]
/-- What can be read is a node's or an edge's. -/
theorem OL_ok {t a b l c d e f : Int} (h : ¬ OL t a b l c d e f < 0) : (t = 1 ∨ t = 4) ∧ nOk a b = true ∨ (t = 2 ∨ t = 3) ∧ EOk l c d e f = true := by
  unfold OL at h
  by_cases h1 : t = 1 ∨ t = 4
  · rw [if_pos h1] at h
    by_cases h2 : nOk a b = true ∧ (l = 0 ∧ (c = 0 ∧ d = 0) ∧ e = 0 ∧ f = 0)
    · exact .inl ⟨h1, h2.1⟩
    · rw [if_neg h2] at h; omega
  · rw [if_neg h1] at h
    by_cases h2 : t = 2 ∨ t = 3
    · rw [if_pos h2] at h
      by_cases h3 : EOk l c d e f = true ∧ a = 0 ∧ b = 0
      · exact .inr ⟨h2, h3.1⟩
      · rw [if_neg h3] at h; omega
    · rw [if_neg h2] at h; omega
/-- What becomes of a right graph. -/
def GR (ns : List S36) (es : List S56) (t a b l c d e f : Int) : List S36 × List S56 × Int :=
  if OL t a b l c d e f < 0 then (ns, es, 1)
  else if t = 1 then (if In ns a b = true then (ns, es, 2) else if 5 ≤ cN a ns then (ns, es, 4) else (putN ns ⟨a, b⟩, es, 0))
  else if t = 4 then (if In ns a b = true then (ns.filter (fun y => !(y.f0 == a && (y.f1 == b))), es.filter (fun e => !hasN a b e), 0) else (ns, es, 3))
  else if t = 2 then (if (es.any fun y => eqE y ⟨l, ⟨c, d⟩, ⟨e, f⟩⟩) = true then (ns, es, 2) else if In ns c d = true then (if In ns e f = true then (if 7 ≤ cE l es then (ns, es, 4) else (ns, putE es ⟨l, ⟨c, d⟩, ⟨e, f⟩⟩, 0)) else (ns, es, 3)) else (ns, es, 3))
  else (if (es.any fun y => eqE y ⟨l, ⟨c, d⟩, ⟨e, f⟩⟩) = true then (ns, es.filter (fun y => !eqE y ⟨l, ⟨c, d⟩, ⟨e, f⟩⟩), 0) else (ns, es, 3))
theorem putE_len (xs : List S56) (x : S56) : (putE xs x).length = xs.length + 1 := by
  have h := congrArg List.length (List.takeWhile_append_dropWhile (p := fun y => decide (ek y < ek x)) (l := xs))
  rw [List.length_append] at h
  unfold putE
  rw [List.length_append, List.length_cons]; omega
theorem GR_len (ns : List S36) (es : List S56) (t a b l c d e f : Int) : (GR ns es t a b l c d e f).1.length ≤ ns.length + 1 ∧ (GR ns es t a b l c d e f).2.1.length ≤ es.length + 1 := by
  have h1 := putN_len ns ⟨a, b⟩
  have h2 := putE_len es ⟨l, ⟨c, d⟩, ⟨e, f⟩⟩
  have h3 := List.length_filter_le (fun y : S36 => !(y.f0 == a && (y.f1 == b))) ns
  have h4 := List.length_filter_le (fun e => !hasN a b e) es
  have h5 := List.length_filter_le (fun y => !eqE y ⟨l, ⟨c, d⟩, ⟨e, f⟩⟩) es
  unfold GR
  repeat' split
  all_goals (constructor <;> dsimp only <;> omega)
theorem iGD (ns : List S36) (es : List S56) (hn : ns.length ≤ 2097152) (hm : es.length ≤ 2097152) (t a b l c d e f : Int) (k : Nat) (hk : 2 * ns.length + 2 * es.length + 100 < k) :
    impl_GraphDo.f k ns es t a b l c d e f = some (if GOk ns es = true then GR ns es t a b l c d e f else ([], [], 1)) := by
  unfold impl_GraphDo.f
  rw [iGraphOk_ok ns es hn hm k hk]
  simp only [Option.bind_some]
  by_cases hg : GOk ns es = true
  · rw [if_pos hg, if_pos hg]
    obtain ⟨hA, hE, l1, l2⟩ := GOk_parts hg
    rw [if_pos ⟨by omega, by omega⟩, iOL k (by omega)]
    simp only [Option.bind_some]
    unfold GR
    by_cases ho : OL t a b l c d e f < 0
    · rw [if_pos ho, if_pos ho]
    · rw [if_neg ho, if_neg ho]
      rcases OL_ok ho with ⟨ht, hx⟩ | ⟨ht, hx⟩
      · obtain ⟨p, hp, q1, q2, q3⟩ := bsf_pl ns hA ⟨a, b⟩ hx k (by omega)
        dsimp only at q1 q3
        by_cases h1 : t = 1
        · rw [if_pos h1, if_pos h1]
          unfold gdPN insfN
          rw [q1]
          simp only [Option.bind_some]
          by_cases c1 : In ns a b = true
          · rw [if_pos c1, if_pos c1]; rfl
          · rw [if_neg c1, if_neg c1]
            by_cases c2 : 5 ≤ cN a ns
            · rw [if_pos (show 5 ≤ cntN a ns from c2), if_pos c2]; rfl
            · rw [if_neg (show ¬ 5 ≤ cntN a ns from c2), if_neg c2, if_pos ⟨by omega, by omega, (by first | rfl | trivial), by omega⟩, Int.toNat_natCast, q2]
              simp
        · have h4 : t = 4 := by omega
          rw [if_neg h1, if_neg h1, if_pos h4, if_pos h4]
          unfold gdTN delfnN
          rw [q1]
          simp only [Option.bind_some]
          by_cases c1 : In ns a b = true
          · obtain ⟨c2, c3⟩ := q3 c1
            rw [if_pos c1, if_pos c1, if_pos ⟨by omega, by omega, (by first | rfl | trivial), by omega⟩, Int.toNat_natCast, c3]
            rfl
          · rw [if_neg c1, if_neg c1]
      · obtain ⟨p, hp, q1, q2, q3⟩ := bse_pl ns es hE ⟨l, ⟨c, d⟩, ⟨e, f⟩⟩ hx k (by omega)
        dsimp only at q1 q3
        have n1 : ¬ t = 1 := by omega
        have n4 : ¬ t = 4 := by omega
        rw [if_neg n1, if_neg n1, if_neg n4, if_neg n4]
        by_cases h2 : t = 2
        · rw [if_pos h2, if_pos h2]
          unfold gdPE insfE
          obtain ⟨_, o1, o2, _⟩ := Eo_iff.1 (show Eo (⟨l, ⟨c, d⟩, ⟨e, f⟩⟩ : S56) = true from hx)
          dsimp only at o1 o2
          rw [q1, there_ok ns c d hA o1 k (by omega), there_ok ns e f hA o2 k (by omega)]
          simp only [Option.bind_some]
          by_cases c1 : (es.any fun y => eqE y ⟨l, ⟨c, d⟩, ⟨e, f⟩⟩) = true
          · rw [if_pos c1, if_pos c1]; rfl
          · rw [if_neg c1, if_neg c1]
            by_cases c2 : In ns c d = true
            · rw [if_pos c2, if_pos c2]
              by_cases c3 : In ns e f = true
              · rw [if_pos c3, if_pos c3]
                by_cases c4 : 7 ≤ cE l es
                · rw [if_pos (show 7 ≤ cntE l es from c4), if_pos c4]; rfl
                · rw [if_neg (show ¬ 7 ≤ cntE l es from c4), if_neg c4, if_pos ⟨by omega, by omega, (by first | rfl | trivial), by omega⟩, Int.toNat_natCast, q2]
                  simp
              · rw [if_neg c3, if_neg c3]; rfl
            · rw [if_neg c2, if_neg c2]; rfl
        · have h3 : t = 3 := by omega
          rw [if_neg h2, if_neg h2, if_pos h3]
          unfold gdTE delfnE
          rw [q1]
          simp only [Option.bind_some]
          by_cases c1 : (es.any fun y => eqE y ⟨l, ⟨c, d⟩, ⟨e, f⟩⟩) = true
          · obtain ⟨c2, c3⟩ := q3 c1
            rw [if_pos c1, if_pos c1, if_pos ⟨by omega, by omega, (by first | rfl | trivial), by omega⟩, Int.toNat_natCast, c3]
            rfl
          · rw [if_neg c1, if_neg c1]; rfl
  · rw [if_neg hg, if_neg hg]

theorem copy_ok (ns : List S36) (es : List S56) (hn : ns.length ≤ 2097152) (hm : es.length ≤ 2097152) : spec_l2Copy.f ns es = some (ns, es) := by
  unfold spec_l2Copy.f
  simp only [Option.bind_some, List.length_nil, Nat.zero_add, List.nil_append]
  rw [if_pos (by omega), if_pos (by omega)]
theorem eat_l0 (ns : List S36) (es : List S56) (hm : es.length ≤ 2097152) (x : S56) : ∀ (d k i : Nat), i + d = es.length → d < k → ∃ r, spec_l2EdgeAt.l0 k (i : Int) ns es x.f0 x.f1.f0 x.f1.f1 x.f2.f0 x.f2.f1 = some r ∧ decide (r < 0) = !((es.drop i).any fun y => eqE y x) := by
  intro d
  induction d with
  | zero =>
    intro k i hd hk
    obtain ⟨k, rfl⟩ : ∃ m, k = m + 1 := ⟨k - 1, by omega⟩
    simp only [spec_l2EdgeAt.l0]
    rw [if_neg (by omega), List.drop_of_length_le (by omega)]
    exact ⟨-1, rfl, by simp⟩
  | succ d ih =>
    intro k i hd hk
    obtain ⟨k, rfl⟩ : ∃ m, k = m + 1 := ⟨k - 1, by omega⟩
    have hi : i < es.length := by omega
    simp only [spec_l2EdgeAt.l0]
    rw [if_pos (by omega), if_pos (by omega), rdE_at hi, List.drop_eq_getElem_cons hi, w1n i (by omega), show (es[i].f0 == x.f0 && ((es[i].f1.f0 == x.f1.f0 && (es[i].f1.f1 == x.f1.f1)) && (es[i].f2.f0 == x.f2.f0 && (es[i].f2.f1 == x.f2.f1)))) = eqE es[i] x from rfl]
    by_cases c : eqE es[i] x = true
    · rw [if_pos c]; exact ⟨i, rfl, by simp only [List.any_cons, c, Bool.true_or]; simp⟩
    · rw [if_neg c]
      obtain ⟨r, h1, h2⟩ := ih k (i + 1) (by omega) (by omega)
      refine ⟨r, h1, ?_⟩
      rw [h2]
      simp only [Bool.not_eq_true] at c
      simp only [List.any_cons, c, Bool.false_or]
theorem eat_ok (ns : List S36) (es : List S56) (hm : es.length ≤ 2097152) (x : S56) (k : Nat) (hk : es.length < k) : ∃ r, spec_l2EdgeAt.f k ns es x.f0 x.f1.f0 x.f1.f1 x.f2.f0 x.f2.f1 = some r ∧ decide (r < 0) = !(es.any fun y => eqE y x) := by
  have := eat_l0 ns es hm x es.length k 0 (by omega) hk
  simpa [spec_l2EdgeAt.f] using this
theorem putE_l0 (ns : List S36) (es : List S56) (x : S56) (hm : es.length ≤ 2097152) (ho : ∀ y ∈ es, Eo y = true) (hx : Eo x = true) : ∀ (d k i : Nat), i + d = es.length → (∀ j (h : j < es.length), j < i → decide (ek es[j] < ek x) = true) → d < k →
    spec_l2PutEdge.l0 k (i : Int) ns es x.f0 x.f1.f0 x.f1.f1 x.f2.f0 x.f2.f1 = some (ns, putE es x) := by
  have fin : ∀ i, i ≤ es.length → es.takeWhile (fun y => decide (ek y < ek x)) = es.take i → es.dropWhile (fun y => decide (ek y < ek x)) = es.drop i →
      putE es x = es.take i ++ [(⟨x.f0, ⟨x.f1.f0, x.f1.f1⟩, ⟨x.f2.f0, x.f2.f1⟩⟩ : S56)] ++ (([] : List S56) ++ es.drop i) := by
    intro i _ e1 e2
    unfold putE
    rw [e1, e2]; simp
  intro d
  induction d with
  | zero =>
    intro k i hd hlt hk
    obtain ⟨k, rfl⟩ : ∃ q, k = q + 1 := ⟨k - 1, by omega⟩
    obtain ⟨e1, e2⟩ := tw_gen (fun y => decide (ek y < ek x)) es i (by omega) hlt (fun h => by omega)
    have l1 : (es.take i).length ≤ 2097152 := by rw [List.length_take]; omega
    have l2 : (es.drop i).length ≤ 2097152 := by rw [List.length_drop]; omega
    rw [spec_l2PutEdge.l0, fin i (by omega) e1 e2]
    rw [if_neg (by omega)]
    simp only [Option.bind_some, Int.toNat_natCast, List.nil_append, List.length_nil]
    rw [if_pos (by omega), if_pos (by omega), if_pos (by omega), if_pos (by omega), if_pos (by simp; omega)]
  | succ d ih =>
    intro k i hd hlt hk
    obtain ⟨k, rfl⟩ : ∃ q, k = q + 1 := ⟨k - 1, by omega⟩
    have hi : i < es.length := by omega
    rw [spec_l2PutEdge.l0]
    rw [if_pos (by omega), if_pos (by omega), rdE_at hi, less_ok (ho _ (List.getElem_mem hi)) hx]
    simp only [Option.bind_some]
    have hL := Lt_ek (ho _ (List.getElem_mem hi)) hx
    by_cases c : Lt es[i] x = true
    · rw [if_pos c, w1n i (by omega)]
      exact ih k (i + 1) (by omega) (fun j hj hji => by
        rcases Nat.lt_or_eq_of_le (Nat.lt_succ_iff.1 hji) with h | h
        · exact hlt j hj h
        · subst h; exact decide_eq_true (hL.1 c)) (by omega)
    · rw [if_neg c]
      obtain ⟨e1, e2⟩ := tw_gen (fun y => decide (ek y < ek x)) es i (by omega) hlt (fun h => decide_eq_false (fun q => c (hL.2 q)))
      have l1 : (es.take i).length ≤ 2097152 := by rw [List.length_take]; omega
      have l2 : (es.drop i).length ≤ 2097152 := by rw [List.length_drop]; omega
      rw [fin i (by omega) e1 e2]
      simp only [Int.toNat_natCast, List.nil_append, List.length_nil]
      rw [if_pos (by omega), if_pos (by omega), if_pos (by omega), if_pos (by simp; omega)]
theorem offE_l1 (ns on_ : List S36) (es : List S56) (hm : es.length ≤ 2097152) (a b : Int) : ∀ (d k i : Nat) (out : List S56), i + d = es.length → out.length ≤ i → d < k →
    spec_l2Off.l1 k (i : Int) ns es a b on_ out = some (on_, out ++ (es.drop i).filter fun e => !hasN a b e) := by
  intro d
  induction d with
  | zero =>
    intro k i out hd ho hk
    obtain ⟨k, rfl⟩ : ∃ m, k = m + 1 := ⟨k - 1, by omega⟩
    simp only [spec_l2Off.l1]
    rw [if_neg (by omega), List.drop_of_length_le (by omega)]; simp
  | succ d ih =>
    intro k i out hd ho hk
    obtain ⟨k, rfl⟩ : ∃ m, k = m + 1 := ⟨k - 1, by omega⟩
    have hi : i < es.length := by omega
    simp only [spec_l2Off.l1]
    rw [if_pos (by omega), if_pos (by omega), rdE_at hi, List.drop_eq_getElem_cons hi, w1n i (by omega)]
    have hN : hasN a b es[i] = ((es[i].f1.f0 == a && (es[i].f1.f1 == b)) || (es[i].f2.f0 == a && (es[i].f2.f1 == b))) := rfl
    by_cases c1 : (!(es[i].f1.f0 == a) || (!(es[i].f1.f1 == b))) = true
    · rw [if_pos c1]
      by_cases c2 : (!(es[i].f2.f0 == a) || (!(es[i].f2.f1 == b))) = true
      · have hF : hasN a b es[i] = false := by
          rw [hN]; revert c1 c2
          cases es[i].f1.f0 == a <;> cases es[i].f1.f1 == b <;> cases es[i].f2.f0 == a <;> cases es[i].f2.f1 == b <;> simp
        rw [if_pos c2, if_pos (by omega), ih k (i + 1) _ (by omega) (by simp; omega) (by omega), List.filter_cons_of_pos (by simp [hF])]
        simp
      · have hT : hasN a b es[i] = true := by
          rw [hN]; revert c2
          cases es[i].f2.f0 == a <;> cases es[i].f2.f1 == b <;> simp
        rw [if_neg c2, ih k (i + 1) _ (by omega) (by omega) (by omega), List.filter_cons_of_neg (by simp [hT])]
    · have hT : hasN a b es[i] = true := by
        rw [hN]; revert c1
        cases es[i].f1.f0 == a <;> cases es[i].f1.f1 == b <;> simp
      rw [if_neg c1, ih k (i + 1) _ (by omega) (by omega) (by omega), List.filter_cons_of_neg (by simp [hT])]
theorem offN_l0 (ns : List S36) (es : List S56) (hn : ns.length ≤ 2097152) (hm : es.length ≤ 2097152) (a b : Int) : ∀ (d k i : Nat) (out : List S36), i + d = ns.length → out.length ≤ i → d + es.length + 2 < k →
    spec_l2Off.l0 k (i : Int) ns es a b out [] = some (out ++ (ns.drop i).filter (fun y => !(y.f0 == a && (y.f1 == b))), es.filter fun e => !hasN a b e) := by
  intro d
  induction d with
  | zero =>
    intro k i out hd ho hk
    obtain ⟨k, rfl⟩ : ∃ m, k = m + 1 := ⟨k - 1, by omega⟩
    simp only [spec_l2Off.l0]
    have := offE_l1 ns out es hm a b es.length k 0 [] (by omega) (by simp) (by omega)
    rw [show ((0 : Nat) : Int) = 0 from rfl] at this
    rw [if_neg (by omega), List.drop_of_length_le (by omega), this]; simp
  | succ d ih =>
    intro k i out hd ho hk
    obtain ⟨k, rfl⟩ : ∃ m, k = m + 1 := ⟨k - 1, by omega⟩
    have hi : i < ns.length := by omega
    simp only [spec_l2Off.l0]
    rw [if_pos (by omega), if_pos (by omega), rdT_at hi, List.drop_eq_getElem_cons hi, w1n i (by omega)]
    by_cases c1 : (!(ns[i].f0 == a) || (!(ns[i].f1 == b))) = true
    · rw [if_pos c1, if_pos (by omega), ih k (i + 1) _ (by omega) (by simp; omega) (by omega), List.filter_cons_of_pos (by rw [Bool.not_and]; exact c1)]
      simp
    · rw [if_neg c1, ih k (i + 1) _ (by omega) (by omega) (by omega), List.filter_cons_of_neg (by rw [Bool.not_and]; exact c1)]
theorem cut_l0 (ns : List S36) (es : List S56) (hm : es.length ≤ 2097152) (x : S56) : ∀ (d k i : Nat) (out : List S56), i + d = es.length → out.length ≤ i → d < k →
    spec_l2Cut.l0 k out (i : Int) ns es x.f0 x.f1.f0 x.f1.f1 x.f2.f0 x.f2.f1 = some (ns, out ++ (es.drop i).filter fun y => !eqE y x) := by
  intro d
  induction d with
  | zero =>
    intro k i out hd ho hk
    obtain ⟨k, rfl⟩ : ∃ m, k = m + 1 := ⟨k - 1, by omega⟩
    simp only [spec_l2Cut.l0]
    rw [if_neg (by omega), List.drop_of_length_le (by omega)]; simp
  | succ d ih =>
    intro k i out hd ho hk
    obtain ⟨k, rfl⟩ : ∃ m, k = m + 1 := ⟨k - 1, by omega⟩
    have hi : i < es.length := by omega
    simp only [spec_l2Cut.l0]
    rw [if_pos (by omega), if_pos (by omega), rdE_at hi, List.drop_eq_getElem_cons hi, w1n i (by omega)]
    have hQ : (!(es[i].f0 == x.f0) || ((!(es[i].f1.f0 == x.f1.f0) || (!(es[i].f1.f1 == x.f1.f1))) || (!(es[i].f2.f0 == x.f2.f0) || (!(es[i].f2.f1 == x.f2.f1))))) = !eqE es[i] x := by
      unfold eqE
      simp only [Bool.not_and]
    by_cases c1 : (!eqE es[i] x) = true
    · rw [if_pos (hQ.trans c1), if_pos (by omega), ih k (i + 1) _ (by omega) (by simp; omega) (by omega), List.filter_cons_of_pos (p := fun y => !eqE y x) c1]
      simp
    · rw [if_neg (fun q => c1 (hQ.symm.trans q)), ih k (i + 1) _ (by omega) (by omega) (by omega), List.filter_cons_of_neg (p := fun y => !eqE y x) c1]
/-- How it ends. -/
def EV (t : Int) (N X E : Bool) (cn ce : Nat) : Int :=
  if t = 1 then (if N = true then 2 else if 5 ≤ cn then 4 else 0) else if t = 2 then (if X = true then 2 else if E = true then (if 7 ≤ ce then 4 else 0) else 3) else if t = 3 then (if X = true then 0 else 3) else (if N = true then 0 else 3)
theorem ends_ok (ns : List S36) (es : List S56) (hn : ns.length ≤ 2097152) (hm : es.length ≤ 2097152) (t a b l c d e f : Int) (ht : t = 1 ∨ t = 2 ∨ t = 3 ∨ t = 4) (k : Nat) (hk : ns.length + es.length + 4 < k) :
    spec_l2Ends.f k ns es t a b l c d e f = some (EV t (In ns a b) (es.any fun y => eqE y ⟨l, ⟨c, d⟩, ⟨e, f⟩⟩) (In ns c d && In ns e f) (cN a ns) (cE l es)) := by
  obtain ⟨r1, h1, g1⟩ := at_ok ns es hn a b k (by omega)
  obtain ⟨r2, h2, g2⟩ := eat_ok ns es hm ⟨l, ⟨c, d⟩, ⟨e, f⟩⟩ k (by omega)
  obtain ⟨r3, h3, g3⟩ := at_ok ns es hn c d k (by omega)
  obtain ⟨r4, h4, g4⟩ := at_ok ns es hn e f k (by omega)
  dsimp only at h2
  have ge : ∀ (r : Int) (B : Bool), decide (r < 0) = !B → decide (r ≥ 0) = B := by
    intro r B h
    by_cases q : r < 0
    · rw [decide_eq_true q] at h; rw [decide_eq_false (by omega)]; revert h; cases B <;> simp
    · rw [decide_eq_false q] at h; rw [decide_eq_true (by omega)]; revert h; cases B <;> simp
  unfold spec_l2Ends.f
  rw [h1, h2, h3, h4]
  simp only [Option.bind_some]
  rw [ge r1 _ g1, ge r2 _ g2, ge r4 _ g4]
  have e3 : ∀ R : Bool → Option Int, (if r3 ≥ 0 then R (In ns e f) else R false) = R (In ns c d && In ns e f) := by
    intro R
    have := ge r3 _ g3
    by_cases q : r3 ≥ 0
    · rw [decide_eq_true q] at this; rw [if_pos q, ← this]; rfl
    · rw [decide_eq_false q] at this; rw [if_neg q, ← this]; rfl
  rw [e3 (fun E => spec_l2Ends.j0 k (In ns a b) (es.any fun y => eqE y ⟨l, ⟨c, d⟩, ⟨e, f⟩⟩) E ns es t a b l c d e f)]
  generalize (In ns c d && In ns e f) = E
  generalize (es.any fun y => eqE y ⟨l, ⟨c, d⟩, ⟨e, f⟩⟩) = X
  generalize In ns a b = N
  obtain ⟨k, rfl⟩ : ∃ m, k = m + 3 := ⟨k - 3, by omega⟩
  have n0 : spec_l2Nodes.f k ns es a = some ((cN a ns : Nat) : Int) := by
    have := cntN_l0 ns es hn a ns.length k 0 0 (by omega) (by omega) (by omega)
    simpa [spec_l2Nodes.f] using this
  have e0 : spec_l2Edges.f k ns es l = some ((cE l es : Nat) : Int) := by
    have := cntE_l0 ns es hm l es.length k 0 0 (by omega) (by omega) (by omega)
    simpa [spec_l2Edges.f] using this
  unfold EV
  rcases ht with rfl | rfl | rfl | rfl <;> cases N <;> cases X <;> cases E <;> simp [spec_l2Ends.j0, spec_l2Ends.j1, spec_l2Ends.j2, n0, e0] <;> split <;> (first | rfl | omega | (split <;> first | rfl | omega))

theorem sDo {ns : List S36} {es : List S56} (hg : GOk ns es = true) (t a b l c d e f : Int) (k : Nat) (hk : 200 < k) : spec_l2Do.f k ns es t a b l c d e f = some (GR ns es t a b l c d e f) := by
  obtain ⟨hA, hE, l1, l2⟩ := GOk_parts hg
  unfold spec_l2Do.f GR
  rw [sOL k (by omega)]
  simp only [Option.bind_some]
  by_cases ho : OL t a b l c d e f < 0
  · rw [if_pos ho, if_pos ho]
  · rw [if_neg ho, if_neg ho, ends_ok ns es (by omega) (by omega) t a b l c d e f (by rcases OL_ok ho with ⟨h, _⟩ | ⟨h, _⟩ <;> omega) k (by omega)]
    simp only [Option.bind_some]
    have hO := fun y hy => (Asc_ok ns (-1) (by omega) hA y hy).1
    have hQ := EAsc_ok ns es none hE
    rcases OL_ok ho with ⟨ht, hx⟩ | ⟨ht, hx⟩
    · by_cases h1 : t = 1
      · subst h1
        unfold EV
        simp only [if_true]
        by_cases c1 : In ns a b = true
        · rw [if_pos c1, if_pos c1]; rfl
        · rw [if_neg c1, if_neg c1]
          by_cases c2 : 5 ≤ cN a ns
          · rw [if_pos c2, if_pos c2]; rfl
          · rw [if_neg c2, if_neg c2, if_pos rfl, copy_ok ns es (by omega) (by omega)]
            simp only [Option.bind_some]
            have := put_l0 ns es ⟨a, b⟩ (by omega) hO hx ns.length k 0 (by omega) (fun j _ hj => by omega) (by omega)
            unfold spec_l2PutNode.f
            rw [show (0 : Int) = ((0 : Nat) : Int) from rfl, this]; rfl
      · have h4 : t = 4 := by omega
        subst h4
        unfold EV
        simp only [show ¬ ((4 : Int) = 1) by decide, show ¬ ((4 : Int) = 2) by decide, show ¬ ((4 : Int) = 3) by decide, if_false, if_true]
        by_cases c1 : In ns a b = true
        · have := offN_l0 ns es (by omega) (by omega) a b ns.length k 0 [] (by omega) (by simp) (by omega)
          unfold spec_l2Off.f
          rw [if_pos c1, if_pos c1, if_pos rfl, show (0 : Int) = ((0 : Nat) : Int) from rfl, this]
          simp
        · rw [if_neg c1, if_neg c1]; rfl
    · by_cases h2 : t = 2
      · subst h2
        unfold EV
        simp only [show ¬ ((2 : Int) = 1) by decide, show ¬ ((2 : Int) = 4) by decide, if_false, if_true]
        by_cases c1 : (es.any fun y => eqE y ⟨l, ⟨c, d⟩, ⟨e, f⟩⟩) = true
        · rw [if_pos c1, if_pos c1]; rfl
        · rw [if_neg c1, if_neg c1]
          by_cases c2 : In ns c d = true
          · by_cases c3 : In ns e f = true
            · rw [if_pos c2, if_pos c3, if_pos (show (In ns c d && In ns e f) = true by rw [c2, c3]; rfl)]
              by_cases c4 : 7 ≤ cE l es
              · rw [if_pos c4, if_pos c4]; rfl
              · rw [if_neg c4, if_neg c4, if_pos rfl, copy_ok ns es (by omega) (by omega)]
                simp only [Option.bind_some]
                have := putE_l0 ns es ⟨l, ⟨c, d⟩, ⟨e, f⟩⟩ (by omega) hQ hx es.length k 0 (by omega) (fun j _ hj => by omega) (by omega)
                unfold spec_l2PutEdge.f
                rw [show (0 : Int) = ((0 : Nat) : Int) from rfl, this]; rfl
            · rw [if_pos c2, if_neg c3, if_neg (show ¬ (In ns c d && In ns e f) = true by simp [c3])]; rfl
          · rw [if_neg c2, if_neg (show ¬ (In ns c d && In ns e f) = true by simp [c2])]; rfl
      · have h3 : t = 3 := by omega
        subst h3
        unfold EV
        simp only [show ¬ ((3 : Int) = 1) by decide, show ¬ ((3 : Int) = 2) by decide, show ¬ ((3 : Int) = 4) by decide, if_false, if_true]
        by_cases c1 : (es.any fun y => eqE y ⟨l, ⟨c, d⟩, ⟨e, f⟩⟩) = true
        · have := cut_l0 ns es (by omega) ⟨l, ⟨c, d⟩, ⟨e, f⟩⟩ es.length k 0 [] (by omega) (by simp) (by omega)
          unfold spec_l2Cut.f
          rw [if_pos c1, if_pos c1, if_pos rfl, show (0 : Int) = ((0 : Nat) : Int) from rfl, this]
          simp
        · rw [if_neg c1, if_neg c1]; rfl
theorem sGD (ns : List S36) (es : List S56) (hn : ns.length ≤ 2097152) (hm : es.length ≤ 2097152) (t a b l c d e f : Int) (k : Nat) (hk : 2 * ns.length + 2 * es.length + 200 < k) :
    spec_GraphDo.f k ns es t a b l c d e f = some (if GOk ns es = true then GR ns es t a b l c d e f else ([], [], 1)) := by
  unfold spec_GraphDo.f
  rw [sGraphOk_ok ns es hn hm k (by omega)]
  simp only [Option.bind_some]
  by_cases hg : GOk ns es = true
  · rw [if_pos hg, if_pos hg, copy_ok ns es hn hm]
    simp only [Option.bind_some]
    obtain ⟨g1, g2⟩ := GR_len ns es t a b l c d e f
    obtain ⟨_, _, l1, l2⟩ := GOk_parts hg
    rw [sDo hg t a b l c d e f k (by omega)]
    simp only [Option.bind_some]
    rw [copy_ok _ _ (by omega) (by omega)]
    rfl
  · rw [if_neg hg, if_neg hg]
theorem FnExactGraphDo : laws_FnExactGraphDo.Pure := by
  intro a b t n0 n1 e0 e1 e2 e3 e4 ma _ mb _ _ _ _ _ _ _ _ _
  obtain ⟨k, hk⟩ : ∃ k, k = 2 * a.length + 2 * b.length + 1000 := ⟨_, rfl⟩
  refine ⟨k + 3, ?_⟩
  unfold laws_FnExactGraphDo.f
  obtain ⟨r, hr, hr1, hr2⟩ := szGraph_ok a b ma mb 1048576 (by omega) (by omega)
  rw [hr]; simp only [Option.bind_some]
  by_cases h : r < 0
  · rw [if_pos h]
  rw [if_neg h]
  have e1_ := hr2 (by omega)
  have la : (a.map cvN).length = a.length := by simp
  have lb : (b.map cvE).length = b.length := by simp
  have hI := fun (q : Nat) (hq : k ≤ q) => iGD (a.map cvN) (b.map cvE) (by omega) (by omega) t n0 n1 e0 e1 e2 e3 e4 q (by omega)
  have hS := sGD (a.map cvN) (b.map cvE) (by omega) (by omega) t n0 n1 e0 e1 e2 e3 e4 (k + 3) (by omega)
  have hL : (if GOk (a.map cvN) (b.map cvE) = true then GR (a.map cvN) (b.map cvE) t n0 n1 e0 e1 e2 e3 e4 else ([], [], 1)).1.length ≤ a.length + 1 ∧ (if GOk (a.map cvN) (b.map cvE) = true then GR (a.map cvN) (b.map cvE) t n0 n1 e0 e1 e2 e3 e4 else ([], [], 1)).2.1.length ≤ b.length + 1 := by
    have := GR_len (a.map cvN) (b.map cvE) t n0 n1 e0 e1 e2 e3 e4
    split
    · omega
    · exact ⟨Nat.zero_le _, Nat.zero_le _⟩
  generalize (if GOk (a.map cvN) (b.map cvE) = true then GR (a.map cvN) (b.map cvE) t n0 n1 e0 e1 e2 e3 e4 else ([], [], 1)) = G at hI hS hL
  obtain ⟨X, Y, v⟩ := G
  obtain ⟨g1, g2⟩ := hL
  dsimp only at g1 g2
  have hT : laws_toOp.f t n0 n1 e0 e1 e2 e3 e4 = some (t, n0, n1, e0, e1, e2, e3, e4) := rfl
  have eq0 : ∀ q, k ≤ q → laws_eqGraph.f q X Y X Y = some true := fun q hq => eqGraph_self X Y (by omega) (by omega) q (by omega)
  have eq1 := eqGraph_self (a.map cvN) (b.map cvE) (by omega) (by omega) (k + 2) (by omega)
  obtain ⟨m1, z1, y1, hm1, hm2, _⟩ := markGraph_ok (a.map cvN) (b.map cvE) (by omega) (by omega) (k + 2) (by omega)
  obtain ⟨m2, z2, y2, hn1, hn2, hn3⟩ := markGraph_ok X Y (by omega) (by omega) (k + 1) (by omega)
  have hG := fun (q : Nat) (hq : k ≤ q) => toGraph_ok a b (by omega) (by omega) q (by omega)
  have vv : (v != v) = false := by simp
  simp only [hG (k + 3) (by omega), hT, Option.bind_some, hS, hI (k + 3) (by omega), eq0 (k + 3) (by omega), if_true, vv]
  rw [laws_FnExactGraphDo.j0]
  simp only [Bool.false_eq_true, if_false, hG (k + 2) (by omega), Option.bind_some, eq1, if_true, hm1]
  rw [if_neg (by omega)]
  simp only [eq0 (k + 2) (by omega), Option.bind_some, if_true, vv]
  rw [laws_FnExactGraphDo.j1]
  simp only [Bool.false_eq_true, if_false, hn1, Option.bind_some, hn3 (k + 1) (by omega)]
  rw [if_neg (by omega)]
  simp only [if_true, hG (k + 1) (by omega), hT, Option.bind_some, hI (k + 1) (by omega), eq0 (k + 1) (by omega), vv]
  rw [laws_FnExactGraphDo.j2]
  simp only [Bool.false_eq_true, if_false, Option.bind_some, hn3 k (by omega)]
  rw [if_neg (by omega)]
  simp

end Go.Proofs.Ytohmemckdogljaa.Pure
