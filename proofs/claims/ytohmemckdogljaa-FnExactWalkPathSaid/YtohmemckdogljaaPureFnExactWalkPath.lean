/- The plain law behind FnExactWalkPath: of every graph and two nodes both functions give the same way, in memory of its own. -/
import Derived.Test.YtohmemckdogljaaQFnExactWalkPathOpen
namespace Go.Proofs.Ytohmemckdogljaa.Pure
open Go.RowKit Go.Proofs.Ytohmemckdogljaa.QFnExactWalkPath Go.Proofs.YtohmemckdogljaaW.PrintWords Go.Proofs.YtohmemckdogljaaW.PrintLast
set_option linter.unusedSimpArgs false
set_option linter.unusedVariables false

open Go.Proofs.Ytohmemckdogljaa.Bl
theorem w64 {x : Int} (h : -9223372036854775808 ≤ x ∧ x ≤ 9223372036854775807) : wrap64 x = x := by unfold wrap64; omega
theorem rdB {b : List Int} (hb : ∀ x ∈ b, 0 ≤ x ∧ x ≤ 255) (i : Int) : 0 ≤ rd b i ∧ rd b i ≤ 255 := by
  unfold rd
  rw [List.getD_eq_getElem?_getD]
  cases h : b[i.toNat]? with
  | none => simp
  | some v => exact hb v (List.mem_of_getElem? h)
theorem u8B {l : List Int} (h : ∀ x ∈ l, (Lit.int .u8 x).wf = true) : ∀ x ∈ l, 0 ≤ x ∧ x ≤ 255 := fun x hx => by
  have := h x hx
  simp [Lit.wf, IntKind.min, IntKind.max, IntKind.signed, IntKind.bits] at this
  omega

/-- A loop over the places from i on that stops at the first place where p does not hold. -/
theorem loop_all {l : Nat → Int → Option Bool} {p : Int → Bool} {n : Int} (h : ∀ k i, 0 ≤ i → i ≤ n → l (k + 1) i = if i < n then (if p i = true then l k (i + 1) else some false) else some true) :
    ∀ (d k : Nat) (i : Int), 0 ≤ i → i + d = n → d < k → l k i = some ((List.range d).all fun j => p (i + j)) := by
  intro d
  induction d with
  | zero =>
    intro k i h0 hd hk
    obtain ⟨k, rfl⟩ : ∃ m, k = m + 1 := ⟨k - 1, by omega⟩
    rw [h k i h0 (by omega), if_neg (by omega)]; rfl
  | succ d ih =>
    intro k i h0 hd hk
    obtain ⟨k, rfl⟩ : ∃ m, k = m + 1 := ⟨k - 1, by omega⟩
    rw [h k i h0 (by omega), if_pos (by omega), List.range_succ_eq_map, List.all_cons, List.all_map]
    by_cases hp : p i = true
    · rw [if_pos hp, ih k (i + 1) (by omega) (by omega) (by omega)]
      have e : ∀ j : Nat, i + 1 + (j : Int) = i + ((j + 1 : Nat) : Int) := fun j => by omega
      simp [hp, Function.comp_def, e]
    · rw [if_neg hp]; simp at hp; simp [hp]
/-- A loop that lays f of each place, from i on, into a row as long. -/
theorem loop_set {α : Type} {l : Nat → List α → Int → Option (List α)} {f : Int → α} {n : Nat} (h : ∀ (k : Nat) (xs : List α) (i : Int), xs.length = n → 0 ≤ i → i ≤ n → l (k + 1) xs i = if i < n then l k (xs.set i.toNat (f i)) (i + 1) else some xs) :
    ∀ (d k : Nat) (xs : List α) (i : Nat), xs.length = n → i + d = n → d < k → l k xs i = some (xs.take i ++ (List.range d).map fun j => f ((i + j : Nat) : Int)) := by
  intro d
  induction d with
  | zero =>
    intro k xs i hl hd hk
    obtain ⟨k, rfl⟩ : ∃ m, k = m + 1 := ⟨k - 1, by omega⟩
    rw [h k xs i hl (by omega) (by omega), if_neg (by omega)]
    simp [List.take_of_length_le (show xs.length ≤ i by omega)]
  | succ d ih =>
    intro k xs i hl hd hk
    obtain ⟨k, rfl⟩ : ∃ m, k = m + 1 := ⟨k - 1, by omega⟩
    rw [h k xs i hl (by omega) (by omega), if_pos (by omega)]
    have e := ih k (xs.set (i : Int).toNat (f i)) (i + 1) (by simpa using hl) (by omega) (by omega)
    rw [show ((i + 1 : Nat) : Int) = (i : Int) + 1 by omega] at e
    rw [e, List.range_succ_eq_map, List.map_cons, List.map_map]
    congr 1
    rw [Int.toNat_natCast]
    have hi : i < xs.length := by omega
    rw [List.take_succ_eq_append_getElem (by simpa using hi), List.getElem_set_self, List.take_set_of_le (by omega)]
    simp [Function.comp_def, Nat.add_assoc, Nat.add_comm 1]
theorem loop_set0 {α : Type} {l : Nat → List α → Int → Option (List α)} {f : Int → α} {n : Nat} (h : ∀ (k : Nat) (xs : List α) (i : Int), xs.length = n → 0 ≤ i → i ≤ n → l (k + 1) xs i = if i < n then l k (xs.set i.toNat (f i)) (i + 1) else some xs)
    (k : Nat) (hk : n < k) (xs : List α) (hl : xs.length = n) : l k xs 0 = some ((List.range n).map fun j : Nat => f (j : Int)) := by
  have e := loop_set h n k xs 0 hl (by omega) hk
  simpa using e

def cvN (x : S27) : S36 := ⟨x.f0, x.f1⟩
def cvE (x : S70) : S56 := ⟨x.f0, ⟨x.f1.f0, x.f1.f1⟩, ⟨x.f2.f0, x.f2.f1⟩⟩
theorem toNodeS_ok (l : List S27) (hm : l.length ≤ 1048576) (k : Nat) (hk : l.length < k) : laws_toNodeS.f k l = some (l.map cvN) := by
  unfold laws_toNodeS.f
  rw [if_pos (by omega), if_pos (by omega)]
  have h := loop_set0 (l := fun k xs i => laws_toNodeS.l0 k l xs i) (f := fun i => cvN (rd_T27 l i)) (n := l.length) (fun k xs i hl h0 h1 => by
    show laws_toNodeS.l0 (k + 1) l xs i = _
    simp only [laws_toNodeS.l0, laws_toNode.f, Option.bind_some]
    by_cases h : i < (l.length : Int)
    · rw [if_pos h, if_pos h, if_pos h0, if_pos (by omega), w64 (x := i + 1) (by omega)]; rfl
    · rw [if_neg h, if_neg h]) k hk (List.replicate ((l.length : Int) : Int).toNat z36) (by simp)
  rw [h]
  congr 1
  apply List.ext_getElem (by simp)
  intro j h1 h2
  simp at h1
  simp [rd_T27, List.getD_eq_getElem?_getD, h1]
theorem toEdgeS_ok (l : List S70) (hm : l.length ≤ 1048576) (k : Nat) (hk : l.length < k) : laws_toEdgeS.f k l = some (l.map cvE) := by
  unfold laws_toEdgeS.f
  rw [if_pos (by omega), if_pos (by omega)]
  have h := loop_set0 (l := fun k xs i => laws_toEdgeS.l0 k l xs i) (f := fun i => cvE (rd_T70 l i)) (n := l.length) (fun k xs i hl h0 h1 => by
    show laws_toEdgeS.l0 (k + 1) l xs i = _
    simp only [laws_toEdgeS.l0, laws_toEdge.f, laws_toNode.f, Option.bind_some]
    by_cases h : i < (l.length : Int)
    · rw [if_pos h, if_pos h, if_pos h0, if_pos (by omega), w64 (x := i + 1) (by omega)]; rfl
    · rw [if_neg h, if_neg h]) k hk (List.replicate ((l.length : Int) : Int).toNat z56) (by simp)
  rw [h]
  congr 1
  apply List.ext_getElem (by simp)
  intro j h1 h2
  simp at h1
  simp [rd_T70, List.getD_eq_getElem?_getD, h1]
theorem toGraph_ok (a : List S27) (b : List S70) (ha : a.length ≤ 1048576) (hb : b.length ≤ 1048576) (k : Nat) (hk : a.length + b.length < k) : laws_toGraph.f k a b = some (a.map cvN, b.map cvE) := by
  unfold laws_toGraph.f
  rw [toNodeS_ok a ha k (by omega), toEdgeS_ok b hb k (by omega)]; rfl
theorem szGraph_ok (a : List S27) (b : List S70) (ha : a.length ≤ maxLen) (hb : b.length ≤ maxLen) (n : Int) (h0 : 0 ≤ n) (h1 : n ≤ 1048576) :
    ∃ r, laws_szGraph.f a b n = some r ∧ r ≤ n ∧ (0 ≤ r → a.length + b.length + r = n) := by
  unfold maxLen at ha hb
  unfold laws_szGraph.f laws_szNodeS.f laws_szEdgeS.f
  rw [w64 (x := n - (a.length : Int)) (by omega)]
  by_cases h : n - (a.length : Int) < 0
  · rw [if_pos h]; simp only [Option.bind_some]; rw [if_pos (by omega)]; exact ⟨-1, rfl, by omega, by omega⟩
  · rw [if_neg h]; simp only [Option.bind_some]; rw [if_neg h, w64 (x := n - (a.length : Int) - (b.length : Int)) (by omega)]
    by_cases h' : n - (a.length : Int) - (b.length : Int) < 0
    · rw [if_pos h']; simp only [Option.bind_some]; rw [if_pos (by omega)]; exact ⟨-1, rfl, by omega, by omega⟩
    · rw [if_neg h']; simp only [Option.bind_some]; rw [if_neg h']; exact ⟨_, rfl, by omega, by omega⟩
def EN (a b : S36) : Bool := a.f0 == b.f0 && (a.f1 == b.f1)
def EE (a b : S56) : Bool := a.f0 == b.f0 && ((a.f1.f0 == b.f1.f0 && (a.f1.f1 == b.f1.f1)) && (a.f2.f0 == b.f2.f0 && (a.f2.f1 == b.f2.f1)))
theorem EN_self (a : S36) : EN a a = true := by simp [EN]
theorem EE_self (a : S56) : EE a a = true := by simp [EE]
def Ns (xs ys : List S36) : Bool := (List.range xs.length).all fun j => EN (rd_T36 xs (0 + (j : Int))) (rd_T36 ys (0 + (j : Int)))
def Ed (xs ys : List S56) : Bool := (List.range xs.length).all fun j => EE (rd_T56 xs (0 + (j : Int))) (rd_T56 ys (0 + (j : Int)))
theorem Ns_self (xs : List S36) : Ns xs xs = true := by unfold Ns; rw [List.all_eq_true]; intro j _; exact EN_self _
theorem Ed_self (xs : List S56) : Ed xs xs = true := by unfold Ed; rw [List.all_eq_true]; intro j _; exact EE_self _
theorem eqNodeS_ok (xs ys : List S36) (hm : xs.length ≤ 2097152) (hl : xs.length = ys.length) (k : Nat) (hk : xs.length < k) : laws_eqNodeS.f k xs ys = some (Ns xs ys) := by
  unfold laws_eqNodeS.f
  rw [if_pos (by omega)]
  exact loop_all (l := fun k i => laws_eqNodeS.l0 k xs ys i) (p := fun i => EN (rd_T36 xs i) (rd_T36 ys i)) (n := xs.length) (fun k i h0 h1 => by
    show laws_eqNodeS.l0 (k + 1) xs ys i = _
    simp only [laws_eqNodeS.l0, laws_eqNode.f]
    by_cases h : i < (xs.length : Int)
    · rw [if_pos h, if_pos h, if_pos h0, if_pos (by omega), w64 (x := i + 1) (by omega)]
      unfold EN
      by_cases c1 : (rd_T36 xs i).f0 = (rd_T36 ys i).f0
      · by_cases c2 : (rd_T36 xs i).f1 = (rd_T36 ys i).f1
        · simp [c1, c2]
        · simp [c1, c2]
      · simp [c1]
    · rw [if_neg h, if_neg h]) xs.length k 0 (by omega) (by omega) hk
theorem eqEdge_ok (a b : S56) : laws_eqEdge.f a.f0 a.f1.f0 a.f1.f1 a.f2.f0 a.f2.f1 b.f0 b.f1.f0 b.f1.f1 b.f2.f0 b.f2.f1 = some (EE a b) := by
  unfold laws_eqEdge.f laws_eqNode.f EE
  by_cases c0 : a.f0 = b.f0 <;> by_cases c1 : a.f1.f0 = b.f1.f0 <;> by_cases c2 : a.f1.f1 = b.f1.f1 <;> by_cases c3 : a.f2.f0 = b.f2.f0 <;> by_cases c4 : a.f2.f1 = b.f2.f1 <;> simp [c0, c1, c2, c3, c4]
theorem eqEdgeS_ok (xs ys : List S56) (hm : xs.length ≤ 2097152) (hl : xs.length = ys.length) (k : Nat) (hk : xs.length < k) : laws_eqEdgeS.f k xs ys = some (Ed xs ys) := by
  unfold laws_eqEdgeS.f
  rw [if_pos (by omega)]
  exact loop_all (l := fun k i => laws_eqEdgeS.l0 k xs ys i) (p := fun i => EE (rd_T56 xs i) (rd_T56 ys i)) (n := xs.length) (fun k i h0 h1 => by
    show laws_eqEdgeS.l0 (k + 1) xs ys i = _
    simp only [laws_eqEdgeS.l0]
    by_cases h : i < (xs.length : Int)
    · rw [if_pos h, if_pos h, if_pos h0, if_pos (by omega), w64 (x := i + 1) (by omega), eqEdge_ok]; rfl
    · rw [if_neg h, if_neg h]) xs.length k 0 (by omega) (by omega) hk
/-- A graph is the same as itself. -/
theorem eqGraph_self (xs : List S36) (ys : List S56) (hx : xs.length ≤ 2097152) (hy : ys.length ≤ 2097152) (k : Nat) (hk : xs.length + ys.length < k) : laws_eqGraph.f k xs ys xs ys = some true := by
  unfold laws_eqGraph.f
  rw [eqNodeS_ok xs xs hx rfl k (by omega), Ns_self, eqEdgeS_ok ys ys hy rfl k (by omega), Ed_self]; rfl

/-- Nodes are right and ascend, from a number on. -/
def Asc : List S36 → Int → Bool
  | [], _ => true
  | x :: xs, last => decide (last < Cd x.f0 x.f1) && Asc xs (Cd x.f0 x.f1)
/-- How many nodes there are of a label. -/
def cN (a : Int) (xs : List S36) : Nat := (xs.filter fun x => x.f0 == a).length
def cE (a : Int) (xs : List S56) : Nat := (xs.filter fun x => x.f0 == a).length
/-- Nodes as the program goes through them. -/
def NR : List S36 → Int → List Int → Bool
  | [], _, _ => true
  | x :: xs, last, m => if Cd x.f0 x.f1 ≤ last then false else if rd m x.f0 = 5 then false else NR xs (Cd x.f0 x.f1) (m.set x.f0.toNat (wrap64 (rd m x.f0 + 1)))
theorem rdT_at {xs : List S36} {i : Nat} (h : i < xs.length) : rd_T36 xs (i : Int) = xs[i] := by
  unfold rd_T36; rw [Int.toNat_natCast, List.getD_eq_getElem?_getD, List.getElem?_eq_getElem h]; rfl
theorem rdE_at {xs : List S56} {i : Nat} (h : i < xs.length) : rd_T56 xs (i : Int) = xs[i] := by
  unfold rd_T56; rw [Int.toNat_natCast, List.getD_eq_getElem?_getD, List.getElem?_eq_getElem h]; rfl
theorem nodesOk_l0 (xs : List S36) (hm : xs.length ≤ 2097152) : ∀ (d k : Nat) (i : Nat) (last : Int) (m : List Int), i + d = xs.length → d < k → impl_nodesOk.l0 k xs last m i = some (NR (xs.drop i) last m) := by
  intro d
  induction d with
  | zero =>
    intro k i last m hd hk
    obtain ⟨k, rfl⟩ : ∃ m, k = m + 1 := ⟨k - 1, by omega⟩
    simp only [impl_nodesOk.l0]
    rw [if_neg (by omega), List.drop_of_length_le (by omega)]; rfl
  | succ d ih =>
    intro k i last m hd hk
    obtain ⟨k, rfl⟩ : ∃ m, k = m + 1 := ⟨k - 1, by omega⟩
    have hi : i < xs.length := by omega
    simp only [impl_nodesOk.l0]
    rw [if_pos (by omega), if_pos (by omega), rdT_at hi, List.drop_eq_getElem_cons hi]
    simp only [NR]
    have e := ih k (i + 1)
    rw [show ((i + 1 : Nat) : Int) = (i : Int) + 1 by omega] at e
    rw [w64 (x := (i : Int) + 1) (by omega)]
    split
    · rfl
    · split
      · rfl
      · exact e _ _ (by omega) (by omega)
/-- The counts hold what they should, and none is over five. -/
theorem NR_eq : ∀ (xs : List S36) (last : Int) (m : List Int), -1 ≤ last → m.length = 8 → (∀ a : Nat, a < 8 → 0 ≤ rd m a ∧ rd m a ≤ 5) →
    NR xs last m = (Asc xs last && (List.range 8).all fun a => decide (rd m a + cN a xs ≤ 5))
  | [], last, m, h0, hl, hm => by
    have : ((List.range 8).all fun a => decide (rd m a + cN a ([] : List S36) ≤ 5)) = true := by
      rw [List.all_eq_true]
      intro a ha
      have := hm a (List.mem_range.1 ha)
      simp [cN]; omega
    rw [this]; rfl
  | x :: xs, last, m, h0, hl, hm => by
    simp only [NR, Asc]
    by_cases c : Cd x.f0 x.f1 ≤ last
    · rw [if_pos c, decide_eq_false (by omega)]; rfl
    · rw [if_neg c, decide_eq_true (by omega : last < Cd x.f0 x.f1), Bool.true_and]
      obtain ⟨e1, e2, e3, e4, e5⟩ := Cd_ok (a := x.f0) (b := x.f1) (by omega)
      obtain ⟨j, hj⟩ := Int.eq_ofNat_of_zero_le e2
      rw [hj]
      have hj8 : j < 8 := by omega
      have hmj := hm j hj8
      by_cases c2 : rd m (j : Int) = 5
      · rw [if_pos c2]
        have : ((List.range 8).all fun a => decide (rd m a + cN a (x :: xs) ≤ 5)) = false := by
          rw [List.all_eq_false]
          refine ⟨j, List.mem_range.2 hj8, ?_⟩
          have : 1 ≤ cN (j : Int) (x :: xs) := by simp [cN, hj]
          simp; omega
        rw [this, Bool.and_false]
      · rw [if_neg c2, ← hj, w64 (x := rd m x.f0 + 1) (by rw [hj]; omega)]
        have hr : ∀ a : Nat, a < 8 → rd (m.set x.f0.toNat (rd m x.f0 + 1)) a = if a = j then rd m a + 1 else rd m a := by
          intro a ha
          rw [hj, Int.toNat_natCast]
          unfold rd
          simp only [Int.toNat_natCast, List.getD_eq_getElem?_getD, List.getElem?_set]
          by_cases q : j = a
          · subst q; simp [hl, hj8]
          · rw [if_neg q, if_neg (fun h => q h.symm)]
        rw [NR_eq xs (Cd x.f0 x.f1) _ (by omega) (by simpa using hl) (fun a ha => by
          rw [hr a ha]; have := hm a ha; split
          · rename_i q; subst q; omega
          · omega)]
        congr 1
        apply Bool.eq_iff_iff.2
        rw [List.all_eq_true, List.all_eq_true]
        have hc : ∀ a : Nat, a < 8 → (rd (m.set x.f0.toNat (rd m x.f0 + 1)) a + cN a xs = rd m a + cN a (x :: xs)) := by
          intro a ha
          rw [hr a ha]
          by_cases q : a = j
          · subst q; rw [if_pos rfl]; simp [cN, hj]; omega
          · rw [if_neg q]
            have : ¬ ((x.f0 == (a : Int)) = true) := by rw [hj]; simp; omega
            simp [cN, List.filter_cons, this]
        constructor
        · intro h a ha; have := h a ha; have e := hc a (List.mem_range.1 ha); simp at this ⊢; omega
        · intro h a ha; have := h a ha; have e := hc a (List.mem_range.1 ha); simp at this ⊢; omega
theorem Asc_ok : ∀ (xs : List S36) (last : Int), -1 ≤ last → Asc xs last = true → ∀ x ∈ xs, nOk x.f0 x.f1 = true ∧ last < Cd x.f0 x.f1
  | [], _, _, _, x, hx => by cases hx
  | y :: xs, last, h0, h, x, hx => by
    simp only [Asc, Bool.and_eq_true, decide_eq_true_eq] at h
    have c := Cd_ok (a := y.f0) (b := y.f1) (by omega)
    rcases List.mem_cons.1 hx with rfl | hx
    · exact ⟨nOk_iff.2 ⟨⟨c.2.1, c.2.2.1⟩, ⟨c.2.2.2.1, c.2.2.2.2⟩⟩, h.1⟩
    · have := Asc_ok xs _ (by omega) h.2 x hx
      exact ⟨this.1, by omega⟩
theorem len_sum : ∀ (xs : List S36), (∀ x ∈ xs, 0 ≤ x.f0 ∧ x.f0 ≤ 7) → xs.length = cN 0 xs + cN 1 xs + cN 2 xs + cN 3 xs + cN 4 xs + cN 5 xs + cN 6 xs + cN 7 xs
  | [], _ => by simp [cN]
  | x :: xs, h => by
    have ih := len_sum xs (fun y hy => h y (List.mem_cons_of_mem _ hy))
    have hx := h x (List.mem_cons_self ..)
    have e : ∀ a : Int, cN a (x :: xs) = cN a xs + if x.f0 = a then 1 else 0 := by
      intro a
      by_cases c : x.f0 = a
      · simp [cN, List.filter_cons, c]
      · simp [cN, List.filter_cons, c]
    simp only [e, List.length_cons]
    rcases (show x.f0 = 0 ∨ x.f0 = 1 ∨ x.f0 = 2 ∨ x.f0 = 3 ∨ x.f0 = 4 ∨ x.f0 = 5 ∨ x.f0 = 6 ∨ x.f0 = 7 by omega) with c | c | c | c | c | c | c | c <;> rw [c] <;> simp <;> omega
theorem len_sumE : ∀ (xs : List S56), (∀ x ∈ xs, 0 ≤ x.f0 ∧ x.f0 ≤ 7) → xs.length = cE 0 xs + cE 1 xs + cE 2 xs + cE 3 xs + cE 4 xs + cE 5 xs + cE 6 xs + cE 7 xs
  | [], _ => by simp [cE]
  | x :: xs, h => by
    have ih := len_sumE xs (fun y hy => h y (List.mem_cons_of_mem _ hy))
    have hx := h x (List.mem_cons_self ..)
    have e : ∀ a : Int, cE a (x :: xs) = cE a xs + if x.f0 = a then 1 else 0 := by
      intro a
      by_cases c : x.f0 = a
      · simp [cE, List.filter_cons, c]
      · simp [cE, List.filter_cons, c]
    simp only [e, List.length_cons]
    rcases (show x.f0 = 0 ∨ x.f0 = 1 ∨ x.f0 = 2 ∨ x.f0 = 3 ∨ x.f0 = 4 ∨ x.f0 = 5 ∨ x.f0 = 6 ∨ x.f0 = 7 by omega) with c | c | c | c | c | c | c | c <;> rw [c] <;> simp <;> omega
/-- The nodes' part of the document's function. -/
theorem specN_l0 (ns : List S36) (es : List S56) (hm : ns.length ≤ 2097152) (R : Option Bool) (K : Nat) (hR : ∀ k, K ≤ k → spec_GraphOk.l1 k 0 ns es = R) : ∀ (d k : Nat) (i : Nat) (last : Int), i + d = ns.length → i ≤ 40 →
    (i = 0 ∧ last = -1 ∨ 0 < i ∧ ∃ h : i - 1 < ns.length, nOk (ns[i - 1]).f0 (ns[i - 1]).f1 = true ∧ last = Cd (ns[i - 1]).f0 (ns[i - 1]).f1) → K + d < k →
    spec_GraphOk.l0 k i ns es = if (Asc (ns.drop i) last && decide (ns.length ≤ 40)) = true then R else some false := by
  intro d
  induction d with
  | zero =>
    intro k i last hd h40 hl hk
    obtain ⟨k, rfl⟩ : ∃ m, k = m + 1 := ⟨k - 1, by omega⟩
    simp only [spec_GraphOk.l0]
    rw [if_neg (by omega), List.drop_of_length_le (by omega), hR k (by omega), if_pos (by simp [Asc]; omega)]
  | succ d ih =>
    intro k i last hd h40 hl hk
    obtain ⟨k, rfl⟩ : ∃ m, k = m + 1 := ⟨k - 1, by omega⟩
    have hi : i < ns.length := by omega
    simp only [spec_GraphOk.l0]
    have ih' := ih k (i + 1) (Cd (ns[i]).f0 (ns[i]).f1) (by omega)
    rw [if_pos (by omega), if_pos (by omega), rdT_at hi, List.drop_eq_getElem_cons hi, sN]
    simp only [Option.bind_some, Asc]
    by_cases c : nOk (ns[i]).f0 (ns[i]).f1 = true
    · have cd : Cd (ns[i]).f0 (ns[i]).f1 = 64 * (ns[i]).f0 + (ns[i]).f1 := by unfold Cd; rw [if_pos c]
      have cn := nOk_iff.1 c
      rw [if_pos c]
      have fin : (if (i : Int) ≥ 40 then some false else spec_GraphOk.l0 k (wrap64 ((i : Int) + 1)) ns es) = if (Asc (ns.drop (i + 1)) (Cd (ns[i]).f0 (ns[i]).f1) && decide (ns.length ≤ 40)) = true then R else some false := by
        by_cases c4 : (i : Int) ≥ 40
        · rw [if_pos c4]; simp only [show ¬ ns.length ≤ 40 by omega, decide_false, Bool.and_false, Bool.false_eq_true, if_false]
        · rw [if_neg c4, w64 (x := (i : Int) + 1) (by omega), show (i : Int) + 1 = ((i + 1 : Nat) : Int) by omega]
          exact ih' (by omega) (.inr ⟨by omega, by simpa using hi, by simpa using c, by simp⟩) (by omega)
      rcases hl with ⟨h0, hl⟩ | ⟨h0, h1, h2, h3⟩
      · rw [if_neg (by omega), fin]; simp only [show last < Cd (ns[i]).f0 (ns[i]).f1 by omega, decide_true, Bool.true_and]
      · rw [if_pos (by omega), w64 (x := (i : Int) - 1) (by omega), if_pos (by omega), if_pos (by omega), show (i : Int) - 1 = ((i - 1 : Nat) : Int) by omega, rdT_at h1, sC2 h2, sC2 c]
        simp only [Option.bind_some]
        have cp : Cd (ns[i - 1]).f0 (ns[i - 1]).f1 = 64 * (ns[i - 1]).f0 + (ns[i - 1]).f1 := by unfold Cd; rw [if_pos h2]
        by_cases c3 : 64 * (ns[i - 1]).f0 + (ns[i - 1]).f1 ≥ 64 * (ns[i]).f0 + (ns[i]).f1
        · rw [if_pos c3]; simp only [show ¬ last < Cd (ns[i]).f0 (ns[i]).f1 by omega, decide_false, Bool.false_and, Bool.false_eq_true, if_false]
        · rw [if_neg c3, fin]; simp only [show last < Cd (ns[i]).f0 (ns[i]).f1 by omega, decide_true, Bool.true_and]
    · rw [if_neg c]
      have : Cd (ns[i]).f0 (ns[i]).f1 = -1 := by unfold Cd; rw [if_neg c]
      have hl' : -1 ≤ last := by
        rcases hl with ⟨_, h⟩ | ⟨_, h1, h2, h3⟩
        · omega
        · rw [h3]; unfold Cd; rw [if_pos h2]; have := nOk_iff.1 h2; omega
      simp only [show ¬ last < Cd (ns[i]).f0 (ns[i]).f1 by omega, decide_false, Bool.false_and, Bool.false_eq_true, if_false]
/-- A node is among them. -/
def In (ns : List S36) (a b : Int) : Bool := ns.any fun x => x.f0 == a && (x.f1 == b)
/-- An edge stands ahead of another one. -/
def Lt (p e : S56) : Bool := if p.f0 = e.f0 then (if p.f1.f0 = e.f1.f0 ∧ p.f1.f1 = e.f1.f1 then decide (Cd p.f2.f0 p.f2.f1 < Cd e.f2.f0 e.f2.f1) else decide (Cd p.f1.f0 p.f1.f1 < Cd e.f1.f0 e.f1.f1)) else decide (p.f0 < e.f0)
def Eo (e : S56) : Bool := EOk e.f0 e.f1.f0 e.f1.f1 e.f2.f0 e.f2.f1
/-- Edges are right, ascend, and stand between nodes that are there. -/
def EAsc (ns : List S36) : List S56 → Option S56 → Bool
  | [], _ => true
  | e :: es, p => Eo e && ((match p with | some p => Lt p e | none => true) && (In ns e.f1.f0 e.f1.f1 && (In ns e.f2.f0 e.f2.f1 && EAsc ns es (some e))))
theorem at_l0 (ns : List S36) (es : List S56) (hm : ns.length ≤ 2097152) (a b : Int) : ∀ (d k : Nat) (i : Nat), i + d = ns.length → d < k → ∃ r, spec_l2At.l0 k i ns es a b = some r ∧ decide (r < 0) = !In (ns.drop i) a b := by
  intro d
  induction d with
  | zero =>
    intro k i hd hk
    obtain ⟨k, rfl⟩ : ∃ m, k = m + 1 := ⟨k - 1, by omega⟩
    simp only [spec_l2At.l0]
    rw [if_neg (by omega), List.drop_of_length_le (by omega)]
    exact ⟨-1, rfl, by simp [In]⟩
  | succ d ih =>
    intro k i hd hk
    obtain ⟨k, rfl⟩ : ∃ m, k = m + 1 := ⟨k - 1, by omega⟩
    have hi : i < ns.length := by omega
    simp only [spec_l2At.l0]
    rw [if_pos (by omega), if_pos (by omega), rdT_at hi, List.drop_eq_getElem_cons hi]
    by_cases c : ((ns[i]).f0 == a && ((ns[i]).f1 == b)) = true
    · rw [if_pos c]; exact ⟨i, rfl, by simp only [In, List.any_cons, c, Bool.true_or]; simp⟩
    · rw [if_neg c, w64 (x := (i : Int) + 1) (by omega), show (i : Int) + 1 = ((i + 1 : Nat) : Int) by omega]
      obtain ⟨r, h1, h2⟩ := ih k (i + 1) (by omega) (by omega)
      refine ⟨r, h1, ?_⟩
      rw [h2]
      simp only [Bool.not_eq_true] at c
      simp only [In, List.any_cons, c, Bool.false_or]
theorem at_ok (ns : List S36) (es : List S56) (hm : ns.length ≤ 2097152) (a b : Int) (k : Nat) (hk : ns.length < k) : ∃ r, spec_l2At.f k ns es a b = some r ∧ decide (r < 0) = !In ns a b := by
  have := at_l0 ns es hm a b ns.length k 0 (by omega) hk
  simpa [spec_l2At.f] using this
theorem Cd_inj {a b c d : Int} (h1 : nOk a b = true) (h2 : nOk c d = true) : 64 * a + b = 64 * c + d ↔ a = c ∧ b = d := by
  have := nOk_iff.1 h1; have := nOk_iff.1 h2; omega
theorem Eo_iff {e : S56} : Eo e = true ↔ (0 ≤ e.f0 ∧ e.f0 ≤ 7) ∧ nOk e.f1.f0 e.f1.f1 = true ∧ nOk e.f2.f0 e.f2.f1 = true ∧ 64 * e.f1.f0 + e.f1.f1 < 64 * e.f2.f0 + e.f2.f1 ∧ U e.f1.f0 e.f0 = true ∧ U e.f2.f0 e.f0 = true := by
  simp [Eo, EOk, isL]
theorem less_ok {p e : S56} (hp : Eo p = true) (he : Eo e = true) : spec_l2Less.f p.f0 p.f1.f0 p.f1.f1 p.f2.f0 p.f2.f1 e.f0 e.f1.f0 e.f1.f1 e.f2.f0 e.f2.f1 = some (Lt p e) := by
  obtain ⟨_, p1, p2, _⟩ := Eo_iff.1 hp
  obtain ⟨_, e1, e2, _⟩ := Eo_iff.1 he
  unfold spec_l2Less.f Lt
  have cd : ∀ {a b : Int}, nOk a b = true → Cd a b = 64 * a + b := fun h => by unfold Cd; rw [if_pos h]
  rw [sC2 p1, sC2 p2, sC2 e1, sC2 e2, cd p1, cd p2, cd e1, cd e2]
  by_cases c : p.f0 = e.f0
  · rw [if_pos c, if_pos c]
    by_cases c2 : p.f1.f0 = e.f1.f0 ∧ p.f1.f1 = e.f1.f1
    · rw [if_pos c2, if_neg (by simp [c2.1, c2.2])]; rfl
    · rw [if_neg c2, if_pos (by simp; omega)]; rfl
  · rw [if_neg c, if_neg c]
/-- The edges' part of the document's function. -/
theorem specE_l1 (ns : List S36) (es : List S56) (hn : ns.length ≤ 2097152) (hm : es.length ≤ 2097152) (R : Option Bool) (K : Nat) (hK : ns.length < K) (hR : ∀ k, K ≤ k → spec_GraphOk.l2 k 0 ns es = R) : ∀ (d k : Nat) (i : Nat) (p : Option S56), i + d = es.length → i ≤ 56 →
    (i = 0 ∧ p = none ∨ 0 < i ∧ ∃ h : i - 1 < es.length, Eo (es[i - 1]) = true ∧ p = some (es[i - 1])) → K + d < k →
    spec_GraphOk.l1 k i ns es = if (EAsc ns (es.drop i) p && decide (es.length ≤ 56)) = true then R else some false := by
  intro d
  induction d with
  | zero =>
    intro k i p hd h40 hl hk
    obtain ⟨k, rfl⟩ : ∃ m, k = m + 1 := ⟨k - 1, by omega⟩
    simp only [spec_GraphOk.l1]
    rw [if_neg (by omega), List.drop_of_length_le (by omega), hR k (by omega), if_pos (by simp [EAsc]; omega)]
  | succ d ih =>
    intro k i p hd h40 hl hk
    obtain ⟨k, rfl⟩ : ∃ m, k = m + 1 := ⟨k - 1, by omega⟩
    have hi : i < es.length := by omega
    simp only [spec_GraphOk.l1]
    have ih' := ih k (i + 1) (some es[i]) (by omega)
    rw [if_pos (by omega), if_pos (by omega), rdE_at hi, List.drop_eq_getElem_cons hi]
    simp only [spec_EdgeOk.f, Option.bind_some, EAsc]
    have eEo : EOk (es[i]).f0 (es[i]).f1.f0 (es[i]).f1.f1 (es[i]).f2.f0 (es[i]).f2.f1 = Eo es[i] := rfl
    rw [eEo]
    by_cases c : Eo es[i] = true
    · obtain ⟨r1, a1, b1⟩ := at_ok ns es hn (es[i]).f1.f0 (es[i]).f1.f1 k (by omega)
      obtain ⟨r2, a2, b2⟩ := at_ok ns es hn (es[i]).f2.f0 (es[i]).f2.f1 k (by omega)
      rw [if_pos c]
      simp only [a1, a2, Option.bind_some]
      have fin : (if r1 < 0 then some false else if r2 < 0 then some false else if (i : Int) ≥ 56 then some false else spec_GraphOk.l1 k (wrap64 ((i : Int) + 1)) ns es) =
          if ((In ns (es[i]).f1.f0 (es[i]).f1.f1 && (In ns (es[i]).f2.f0 (es[i]).f2.f1 && EAsc ns (es.drop (i + 1)) (some es[i]))) && decide (es.length ≤ 56)) = true then R else some false := by
        by_cases q1 : r1 < 0
        · rw [if_pos q1]
          have : In ns (es[i]).f1.f0 (es[i]).f1.f1 = false := by rw [decide_eq_true q1] at b1; simpa using b1.symm
          simp [this]
        · rw [if_neg q1]
          have t1 : In ns (es[i]).f1.f0 (es[i]).f1.f1 = true := by rw [decide_eq_false q1] at b1; simpa using b1.symm
          by_cases q2 : r2 < 0
          · rw [if_pos q2]
            have : In ns (es[i]).f2.f0 (es[i]).f2.f1 = false := by rw [decide_eq_true q2] at b2; simpa using b2.symm
            simp [this]
          · rw [if_neg q2]
            have t2 : In ns (es[i]).f2.f0 (es[i]).f2.f1 = true := by rw [decide_eq_false q2] at b2; simpa using b2.symm
            simp only [t1, t2, Bool.true_and]
            by_cases c4 : (i : Int) ≥ 56
            · rw [if_pos c4]; simp only [show ¬ es.length ≤ 56 by omega, decide_false, Bool.and_false, Bool.false_eq_true, if_false]
            · rw [if_neg c4, w64 (x := (i : Int) + 1) (by omega), show (i : Int) + 1 = ((i + 1 : Nat) : Int) by omega]
              exact ih' (by omega) (.inr ⟨by omega, by simpa using hi, by simpa using c, by simp⟩) (by omega)
      simp only [c, Bool.true_and]
      rcases hl with ⟨h0, rfl⟩ | ⟨h0, h1, h2, rfl⟩
      · rw [if_neg (by omega), fin]; simp only [Bool.true_and]
      · rw [if_pos (by omega), w64 (x := (i : Int) - 1) (by omega), if_pos (by omega), if_pos (by omega), show (i : Int) - 1 = ((i - 1 : Nat) : Int) by omega, rdE_at h1, less_ok h2 c]
        simp only [Option.bind_some]
        by_cases c3 : Lt es[i - 1] es[i] = true
        · rw [if_pos c3, fin]; simp only [c3, Bool.true_and]
        · rw [if_neg c3]; simp only [Bool.not_eq_true] at c3; simp only [c3, Bool.false_and, Bool.false_eq_true, if_false]
    · rw [if_neg c]
      simp only [Bool.not_eq_true] at c
      simp only [c, Bool.false_and, Bool.false_eq_true, if_false]
theorem cN_cons (a : Int) (x : S36) (xs : List S36) : cN a (x :: xs) = cN a xs + if x.f0 = a then 1 else 0 := by
  by_cases c : x.f0 = a
  · simp [cN, List.filter_cons, c]
  · simp [cN, List.filter_cons, c]
theorem cE_cons (a : Int) (x : S56) (xs : List S56) : cE a (x :: xs) = cE a xs + if x.f0 = a then 1 else 0 := by
  by_cases c : x.f0 = a
  · simp [cE, List.filter_cons, c]
  · simp [cE, List.filter_cons, c]
theorem cntN_l0 (ns : List S36) (es : List S56) (hm : ns.length ≤ 2097152) (a : Int) : ∀ (d k : Nat) (n i : Nat), i + d = ns.length → n ≤ i → d < k → spec_l2Nodes.l0 k a n i ns es = some ((n + cN a (ns.drop i) : Nat) : Int) := by
  intro d
  induction d with
  | zero =>
    intro k n i hd hn hk
    obtain ⟨k, rfl⟩ : ∃ m, k = m + 1 := ⟨k - 1, by omega⟩
    simp only [spec_l2Nodes.l0]
    rw [if_neg (by omega), List.drop_of_length_le (by omega)]; simp [cN]
  | succ d ih =>
    intro k n i hd hn hk
    obtain ⟨k, rfl⟩ : ∃ m, k = m + 1 := ⟨k - 1, by omega⟩
    have hi : i < ns.length := by omega
    simp only [spec_l2Nodes.l0]
    rw [if_pos (by omega), if_pos (by omega), rdT_at hi, List.drop_eq_getElem_cons hi, cN_cons, w64 (x := (i : Int) + 1) (by omega), w64 (x := (n : Int) + 1) (by omega), show (i : Int) + 1 = ((i + 1 : Nat) : Int) by omega, show (n : Int) + 1 = ((n + 1 : Nat) : Int) by omega]
    by_cases c : (ns[i]).f0 = a
    · rw [if_pos c, if_pos c, ih k (n + 1) (i + 1) (by omega) (by omega) (by omega)]; congr 2; omega
    · rw [if_neg c, if_neg c, ih k n (i + 1) (by omega) (by omega) (by omega)]; congr 2
theorem cntE_l0 (ns : List S36) (es : List S56) (hm : es.length ≤ 2097152) (a : Int) : ∀ (d k : Nat) (n i : Nat), i + d = es.length → n ≤ i → d < k → spec_l2Edges.l0 k a n i ns es = some ((n + cE a (es.drop i) : Nat) : Int) := by
  intro d
  induction d with
  | zero =>
    intro k n i hd hn hk
    obtain ⟨k, rfl⟩ : ∃ m, k = m + 1 := ⟨k - 1, by omega⟩
    simp only [spec_l2Edges.l0]
    rw [if_neg (by omega), List.drop_of_length_le (by omega)]; simp [cE]
  | succ d ih =>
    intro k n i hd hn hk
    obtain ⟨k, rfl⟩ : ∃ m, k = m + 1 := ⟨k - 1, by omega⟩
    have hi : i < es.length := by omega
    simp only [spec_l2Edges.l0]
    rw [if_pos (by omega), if_pos (by omega), rdE_at hi, List.drop_eq_getElem_cons hi, cE_cons, w64 (x := (i : Int) + 1) (by omega), w64 (x := (n : Int) + 1) (by omega), show (i : Int) + 1 = ((i + 1 : Nat) : Int) by omega, show (n : Int) + 1 = ((n + 1 : Nat) : Int) by omega]
    by_cases c : (es[i]).f0 = a
    · rw [if_pos c, if_pos c, ih k (n + 1) (i + 1) (by omega) (by omega) (by omega)]; congr 2; omega
    · rw [if_neg c, if_neg c, ih k n (i + 1) (by omega) (by omega) (by omega)]; congr 2
/-- No label has too many. -/
def Few (ns : List S36) (es : List S56) : Bool := (List.range 8).all fun a => decide (cN a ns ≤ 5) && decide (cE a es ≤ 7)
theorem specC_l2 (ns : List S36) (es : List S56) (hn : ns.length ≤ 2097152) (hm : es.length ≤ 2097152) : ∀ (d k : Nat) (a : Nat), a + d = 8 → ns.length + es.length + d < k →
    spec_GraphOk.l2 k a ns es = some ((List.range d).all fun j => decide (cN ((a + j : Nat) : Int) ns ≤ 5) && decide (cE ((a + j : Nat) : Int) es ≤ 7)) := by
  intro d
  induction d with
  | zero =>
    intro k a hd hk
    obtain ⟨k, rfl⟩ : ∃ m, k = m + 1 := ⟨k - 1, by omega⟩
    simp only [spec_GraphOk.l2]
    rw [if_neg (by omega)]; rfl
  | succ d ih =>
    intro k a hd hk
    obtain ⟨k, rfl⟩ : ∃ m, k = m + 1 := ⟨k - 1, by omega⟩
    simp only [spec_GraphOk.l2]
    have n0 : spec_l2Nodes.f k ns es a = some ((cN a ns : Nat) : Int) := by
      have := cntN_l0 ns es hn a ns.length k 0 0 (by omega) (by omega) (by omega)
      simpa [spec_l2Nodes.f] using this
    have e0 : spec_l2Edges.f k ns es a = some ((cE a es : Nat) : Int) := by
      have := cntE_l0 ns es hm a es.length k 0 0 (by omega) (by omega) (by omega)
      simpa [spec_l2Edges.f] using this
    rw [if_pos (by omega), n0, e0, List.range_succ_eq_map, List.all_cons, List.all_map]
    simp only [Option.bind_some, Nat.add_zero]
    have r := ih k (a + 1) (by omega) (by omega)
    rw [w64 (x := (a : Int) + 1) (by omega), show (a : Int) + 1 = ((a + 1 : Nat) : Int) by omega, r]
    have f : ((fun j : Nat => decide (cN ((a + j : Nat) : Int) ns ≤ 5) && decide (cE ((a + j : Nat) : Int) es ≤ 7)) ∘ Nat.succ) = fun j : Nat => decide (cN ((a + 1 + j : Nat) : Int) ns ≤ 5) && decide (cE ((a + 1 + j : Nat) : Int) es ≤ 7) := by
      funext j; simp only [Function.comp_def, show a + Nat.succ j = a + 1 + j by omega]
    rw [f]
    by_cases c1 : (cN a ns : Int) > 5
    · rw [if_pos c1]; simp only [show ¬ cN a ns ≤ 5 by omega, decide_false, Bool.false_and]
    · rw [if_neg c1]
      by_cases c2 : (cE a es : Int) > 7
      · rw [if_pos c2]; simp only [show ¬ cE a es ≤ 7 by omega, decide_false, Bool.and_false, Bool.false_and]
      · rw [if_neg c2]; simp only [show cN a ns ≤ 5 by omega, show cE a es ≤ 7 by omega, decide_true, Bool.true_and]
/-- A graph is right. -/
def GOk (ns : List S36) (es : List S56) : Bool := Asc ns (-1) && (EAsc ns es none && Few ns es)
theorem Few_len {ns : List S36} {es : List S56} (h : Few ns es = true) (h1 : Asc ns (-1) = true) : ns.length ≤ 40 := by
  have hl := len_sum ns (fun x hx => by have := nOk_iff.1 (Asc_ok ns (-1) (by omega) h1 x hx).1; omega)
  have q : ∀ a : Nat, a < 8 → cN a ns ≤ 5 := fun a ha => by
    have := List.all_eq_true.1 h a (List.mem_range.2 ha)
    simp at this; exact this.1
  have q0 := q 0 (by omega); have q1 := q 1 (by omega); have q2 := q 2 (by omega); have q3 := q 3 (by omega)
  have q4 := q 4 (by omega); have q5 := q 5 (by omega); have q6 := q 6 (by omega); have q7 := q 7 (by omega)
  simp at q0 q1 q2 q3 q4 q5 q6 q7
  omega
theorem EAsc_ok (ns : List S36) : ∀ (es : List S56) (p : Option S56), EAsc ns es p = true → ∀ e ∈ es, Eo e = true
  | [], _, _, x, hx => by cases hx
  | y :: es, p, h, x, hx => by
    simp only [EAsc, Bool.and_eq_true] at h
    rcases List.mem_cons.1 hx with rfl | hx
    · exact h.1
    · exact EAsc_ok ns es _ h.2.2.2.2 x hx
theorem Few_lenE {ns : List S36} {es : List S56} (h : Few ns es = true) (h1 : EAsc ns es none = true) : es.length ≤ 56 := by
  have hl := len_sumE es (fun x hx => (Eo_iff.1 (EAsc_ok ns es none h1 x hx)).1)
  have q : ∀ a : Nat, a < 8 → cE a es ≤ 7 := fun a ha => by
    have := List.all_eq_true.1 h a (List.mem_range.2 ha)
    simp at this; exact this.2
  have q0 := q 0 (by omega); have q1 := q 1 (by omega); have q2 := q 2 (by omega); have q3 := q 3 (by omega)
  have q4 := q 4 (by omega); have q5 := q 5 (by omega); have q6 := q 6 (by omega); have q7 := q 7 (by omega)
  simp at q0 q1 q2 q3 q4 q5 q6 q7
  omega
theorem sGraphOk_ok (ns : List S36) (es : List S56) (hn : ns.length ≤ 2097152) (hm : es.length ≤ 2097152) (k : Nat) (hk : 2 * ns.length + 2 * es.length + 100 < k) : spec_GraphOk.f k ns es = some (GOk ns es) := by
  have h2 : ∀ q, ns.length + es.length + 10 ≤ q → spec_GraphOk.l2 q 0 ns es = some (Few ns es) := by
    intro q hq
    have := specC_l2 ns es hn hm 8 q 0 (by omega) (by omega)
    simpa [Few] using this
  have h1 : ∀ q, ns.length + 2 * es.length + 20 ≤ q → spec_GraphOk.l1 q 0 ns es = some (EAsc ns es none && (decide (es.length ≤ 56) && Few ns es)) := by
    intro q hq
    have := specE_l1 ns es hn hm _ (ns.length + es.length + 10) (by omega) h2 es.length q 0 none (by omega) (by omega) (.inl ⟨rfl, rfl⟩) (by omega)
    rw [List.drop_zero] at this
    rw [show ((0 : Nat) : Int) = 0 from rfl] at this
    rw [this]
    cases EAsc ns es none <;> cases decide (es.length ≤ 56) <;> rfl
  have h0 := specN_l0 ns es hn _ (ns.length + 2 * es.length + 20) h1 ns.length k 0 (-1) (by omega) (by omega) (.inl ⟨rfl, rfl⟩) (by omega)
  rw [List.drop_zero] at h0
  rw [show ((0 : Nat) : Int) = 0 from rfl] at h0
  unfold spec_GraphOk.f GOk
  rw [h0]
  cases c1 : Asc ns (-1)
  · rfl
  · cases c2 : EAsc ns es none
    · simp
    · cases c3 : Few ns es
      · simp
      · have l1 := Few_len c3 c1
        have l2 := Few_lenE c3 c2
        simp [l1, l2]
/-- Edges as the program goes through them. -/
def ER (ns : List S36) : List S56 → Option S56 → List Int → Bool
  | [], _, _ => true
  | e :: es, p, m => if Eo e = true then (if rd m e.f0 = 7 then false else if (match p with | some p => Lt p e | none => true) = true then (if In ns e.f1.f0 e.f1.f1 = true then (if In ns e.f2.f0 e.f2.f1 = true then ER ns es (some e) (m.set e.f0.toNat (wrap64 (rd m e.f0 + 1))) else false) else false) else false) else false
theorem ER_eq (ns : List S36) : ∀ (es : List S56) (p : Option S56) (m : List Int), m.length = 8 → (∀ a : Nat, a < 8 → 0 ≤ rd m a ∧ rd m a ≤ 7) →
    ER ns es p m = (EAsc ns es p && (List.range 8).all fun a => decide (rd m a + cE a es ≤ 7))
  | [], p, m, hl, hm => by
    have : ((List.range 8).all fun a => decide (rd m a + cE a ([] : List S56) ≤ 7)) = true := by
      rw [List.all_eq_true]
      intro a ha
      have := hm a (List.mem_range.1 ha)
      simp [cE]; omega
    rw [this]; rfl
  | x :: xs, p, m, hl, hm => by
    simp only [ER, EAsc]
    by_cases c : Eo x = true
    · rw [if_pos c]
      obtain ⟨⟨e2, e3⟩, _⟩ := Eo_iff.1 c
      obtain ⟨j, hj⟩ := Int.eq_ofNat_of_zero_le e2
      have hj8 : j < 8 := by omega
      have hmj := hm j hj8
      by_cases c2 : rd m x.f0 = 7
      · rw [if_pos c2]
        have : ((List.range 8).all fun a => decide (rd m a + cE a (x :: xs) ≤ 7)) = false := by
          rw [List.all_eq_false]
          refine ⟨j, List.mem_range.2 hj8, ?_⟩
          have : 1 ≤ cE (j : Int) (x :: xs) := by simp [cE, hj]
          rw [hj] at c2
          simp; omega
        rw [this, Bool.and_false]
      · rw [if_neg c2, w64 (x := rd m x.f0 + 1) (by rw [hj]; omega)]
        have hr : ∀ a : Nat, a < 8 → rd (m.set x.f0.toNat (rd m x.f0 + 1)) a = if a = j then rd m a + 1 else rd m a := by
          intro a ha
          rw [hj, Int.toNat_natCast]
          unfold rd
          simp only [Int.toNat_natCast, List.getD_eq_getElem?_getD, List.getElem?_set]
          by_cases q : j = a
          · subst q; simp [hl, hj8]
          · rw [if_neg q, if_neg (fun h => q h.symm)]
        have c2' : rd m (j : Int) ≠ 7 := by rw [← hj]; exact c2
        rw [ER_eq ns xs (some x) _ (by simpa using hl) (fun a ha => by
          rw [hr a ha]; have := hm a ha; split
          · rename_i q; subst q; omega
          · omega)]
        have hc : ((List.range 8).all fun a => decide (rd (m.set x.f0.toNat (rd m x.f0 + 1)) a + cE a xs ≤ 7)) = (List.range 8).all fun a => decide (rd m a + cE a (x :: xs) ≤ 7) := by
          apply Bool.eq_iff_iff.2
          rw [List.all_eq_true, List.all_eq_true]
          have hc : ∀ a : Nat, a < 8 → (rd (m.set x.f0.toNat (rd m x.f0 + 1)) a + cE a xs = rd m a + cE a (x :: xs)) := by
            intro a ha
            rw [hr a ha, cE_cons]
            by_cases q : a = j
            · subst q; rw [if_pos rfl, if_pos hj]; omega
            · rw [if_neg q, if_neg (by rw [hj]; omega)]; omega
          constructor
          · intro h a ha; have := h a ha; have e := hc a (List.mem_range.1 ha); simp at this ⊢; omega
          · intro h a ha; have := h a ha; have e := hc a (List.mem_range.1 ha); simp at this ⊢; omega
        rw [hc]
        simp only [c, Bool.true_and]
        cases (match p with | some p => Lt p x | none => true) <;> cases In ns x.f1.f0 x.f1.f1 <;> cases In ns x.f2.f0 x.f2.f1 <;> simp
    · rw [if_neg c]
      simp only [Bool.not_eq_true] at c
      simp only [c, Bool.false_and]
theorem Cmp_ok (a b : Int) : cmp_Compare_int.f a b = some (if a < b then -1 else if a > b then 1 else 0) := by
  unfold cmp_Compare_int.f cmp_isNaN_int.f
  simp only [Option.bind_some, bne_self_eq_false, Bool.false_eq_true, if_false]
  split
  · rfl
  · split <;> rfl
theorem Or_ok (x y z : Int) (k : Nat) (hk : 5 ≤ k) : cmp_Or_int.f k [x, y, z] = some (if x ≠ 0 then x else if y ≠ 0 then y else z) := by
  obtain ⟨k, rfl⟩ : ∃ m, k = m + 5 := ⟨k - 5, by omega⟩
  have w1 : wrap64 (0 + 1) = 1 := by decide +kernel
  have w2 : wrap64 (1 + 1) = 2 := by decide +kernel
  have w3 : wrap64 (2 + 1) = 3 := by decide +kernel
  unfold cmp_Or_int.f
  simp only [cmp_Or_int.l0, List.length_cons, List.length_nil]
  simp only [rd, w1, w2, w3]
  by_cases c1 : x = 0
  · by_cases c2 : y = 0
    · by_cases c3 : z = 0
      · simp [c1, c2, c3, w1, w2, w3]
      · simp [c1, c2, c3, w1, w2, w3]
    · simp [c1, c2, w1, w2, w3]
  · simp [c1, w1]
theorem order_ok {p e : S56} (hp : Eo p = true) (he : Eo e = true) (k : Nat) (hk : 5 ≤ k) : ∃ t, impl_edgeOrder.f k p.f0 p.f1.f0 p.f1.f1 p.f2.f0 p.f2.f1 e.f0 e.f1.f0 e.f1.f1 e.f2.f0 e.f2.f1 = some t ∧ decide (t ≥ 0) = !Lt p e := by
  obtain ⟨_, p1, p2, _⟩ := Eo_iff.1 hp
  obtain ⟨_, e1, e2, _⟩ := Eo_iff.1 he
  have cd : ∀ {a b : Int}, nOk a b = true → Cd a b = 64 * a + b := fun h => by unfold Cd; rw [if_pos h]
  have inj := Cd_inj p1 e1
  unfold impl_edgeOrder.f
  simp only [Cmp_ok, iO, Option.bind_some, Or_ok _ _ _ k hk]
  refine ⟨_, rfl, ?_⟩
  unfold Lt oN
  rw [cd p1, cd p2, cd e1, cd e2]
  by_cases c : p.f0 = e.f0
  · rw [if_pos c]
    rw [c]
    simp only [Int.lt_irrefl, if_false, gt_iff_lt, ne_eq, not_true_eq_false]
    by_cases c2 : p.f1.f0 = e.f1.f0 ∧ p.f1.f1 = e.f1.f1
    · rw [if_pos c2]
      have := inj.2 c2
      rw [this]
      simp only [Int.lt_irrefl, if_false, not_true_eq_false]
      by_cases q : 64 * p.f2.f0 + p.f2.f1 < 64 * e.f2.f0 + e.f2.f1
      · simp [q]
      · by_cases q2 : 64 * e.f2.f0 + e.f2.f1 < 64 * p.f2.f0 + p.f2.f1
        · simp [q, q2]
        · simp [q, q2]
    · rw [if_neg c2]
      have hne : 64 * p.f1.f0 + p.f1.f1 ≠ 64 * e.f1.f0 + e.f1.f1 := fun h => c2 (inj.1 h)
      by_cases q : 64 * p.f1.f0 + p.f1.f1 < 64 * e.f1.f0 + e.f1.f1
      · simp [q]
      · have q2 : 64 * e.f1.f0 + e.f1.f1 < 64 * p.f1.f0 + p.f1.f1 := by omega
        simp [q, q2]
  · rw [if_neg c]
    by_cases q : p.f0 < e.f0
    · simp [q]
    · have q2 : e.f0 < p.f0 := by omega
      simp [q, q2]
theorem oN_neg {a b c d : Int} : oN a b c d < 0 ↔ Cd a b < Cd c d := by
  unfold oN; split
  · simp; assumption
  · split <;> simp <;> omega
theorem oN_zero {a b c d : Int} : (oN a b c d == 0) = true ↔ Cd a b = Cd c d := by
  unfold oN; split
  · simp; omega
  · split <;> simp <;> omega
theorem Asc_gt : ∀ (xs : List S36) (last : Int), Asc xs last = true → ∀ x ∈ xs, last < Cd x.f0 x.f1
  | [], _, _, x, hx => by cases hx
  | y :: xs, last, h, x, hx => by
    simp only [Asc, Bool.and_eq_true, decide_eq_true_eq] at h
    rcases List.mem_cons.1 hx with rfl | hx
    · exact h.1
    · have := Asc_gt xs _ h.2 x hx
      omega
theorem Asc_mono : ∀ (xs : List S36) (last : Int), Asc xs last = true → ∀ (i j : Nat) (hi : i < j) (hj : j < xs.length), Cd (xs[i]'(by omega)).f0 (xs[i]'(by omega)).f1 < Cd (xs[j]).f0 (xs[j]).f1
  | [], _, _, i, j, hi, hj => by simp at hj
  | x :: xs, last, h, i, j, hi, hj => by
    simp only [Asc, Bool.and_eq_true, decide_eq_true_eq] at h
    cases j with
    | zero => omega
    | succ j =>
      cases i with
      | zero =>
        simp only [List.getElem_cons_zero, List.getElem_cons_succ]
        exact Asc_gt xs _ h.2 _ (List.getElem_mem _)
      | succ i =>
        simp only [List.getElem_cons_succ]
        exact Asc_mono xs _ h.2 i j (by omega) (by simpa using hj)
theorem bsf_l0 (xs : List S36) (a b : Int) (hA : Asc xs (-1) = true) (ht : nOk a b = true) : ∀ (d k : Nat) (i j : Nat), j - i ≤ d → i ≤ j → j ≤ xs.length → (∀ q (h : q < xs.length), q < i → Cd (xs[q]).f0 (xs[q]).f1 < Cd a b) → (∀ q (h : q < xs.length), j ≤ q → Cd a b ≤ Cd (xs[q]).f0 (xs[q]).f1) → d < k →
    ∃ p, impl_bsf.l0 k xs a b i j = some (p, In xs a b) := by
  intro d
  induction d with
  | zero =>
    intro k i j hd hij hj h1 h2 hk
    obtain ⟨k, rfl⟩ : ∃ m, k = m + 1 := ⟨k - 1, by omega⟩
    obtain rfl : i = j := by omega
    simp only [impl_bsf.l0]
    rw [if_neg (by omega)]
    refine ⟨i, ?_⟩
    congr 2
    apply Bool.eq_iff_iff.2
    constructor
    · intro h
      by_cases c : (i : Int) < (xs.length : Int)
      · rw [if_pos c, rdT_at (by omega)] at h
        have e := oN_zero.1 h
        have o := Asc_ok xs (-1) (by omega) hA _ (List.getElem_mem (show i < xs.length by omega))
        have := Cd_inj o.1 ht
        unfold Cd at e
        rw [if_pos o.1, if_pos ht] at e
        have e2 := this.1 e
        unfold In
        rw [List.any_eq_true]
        exact ⟨_, List.getElem_mem (show i < xs.length by omega), by simp [e2.1, e2.2]⟩
      · rw [if_neg c] at h; cases h
    · intro h
      unfold In at h
      rw [List.any_eq_true] at h
      obtain ⟨x, hx, hxe⟩ := h
      obtain ⟨q, hq, rfl⟩ := List.mem_iff_getElem.1 hx
      simp at hxe
      have e : Cd (xs[q]).f0 (xs[q]).f1 = Cd a b := by rw [hxe.1, hxe.2]
      have hqi : i ≤ q := by
        rcases Nat.lt_or_ge q i with c | c
        · have := h1 q hq c; omega
        · exact c
      have : q = i := by
        rcases Nat.lt_or_ge i q with c | c
        · have := Asc_mono xs (-1) hA i q c hq
          have := h2 i (by omega) (Nat.le_refl _)
          omega
        · omega
      subst this
      rw [if_pos (by omega), rdT_at hq]
      exact oN_zero.2 e
  | succ d ih =>
    intro k i j hd hij hj h1 h2 hk
    by_cases c : i < j
    · obtain ⟨k, rfl⟩ : ∃ m, k = m + 1 := ⟨k - 1, by omega⟩
      simp only [impl_bsf.l0]
      have hh : ((i : Int) + (j : Int)) / 2 = (((i + j) / 2 : Nat) : Int) := by omega
      have hq : (i + j) / 2 < xs.length := by omega
      rw [if_pos (by omega), hh, rdT_at hq]
      by_cases c2 : oN (xs[(i + j) / 2]).f0 (xs[(i + j) / 2]).f1 a b < 0
      · rw [if_pos c2, show (((i + j) / 2 : Nat) : Int) + 1 = (((i + j) / 2 + 1 : Nat) : Int) by omega]
        have l := oN_neg.1 c2
        refine ih k _ j (by omega) (by omega) hj (fun q h hqi => ?_) h2 (by omega)
        rcases Nat.lt_or_ge q ((i + j) / 2) with c3 | c3
        · have := Asc_mono xs (-1) hA q _ c3 hq; omega
        · obtain rfl : q = (i + j) / 2 := by omega
          exact l
      · rw [if_neg c2]
        have l : Cd a b ≤ Cd (xs[(i + j) / 2]).f0 (xs[(i + j) / 2]).f1 := by
          rcases Int.lt_or_le (Cd (xs[(i + j) / 2]).f0 (xs[(i + j) / 2]).f1) (Cd a b) with q | q
          · exact absurd (oN_neg.2 q) c2
          · exact q
        refine ih k i _ (by omega) (by omega) (by omega) h1 (fun q h hqi => ?_) (by omega)
        rcases Nat.lt_or_ge ((i + j) / 2) q with c3 | c3
        · have := Asc_mono xs (-1) hA _ q c3 h; omega
        · obtain rfl : q = (i + j) / 2 := by omega
          exact l
    · exact ih k i j (by omega) hij hj h1 h2 (by omega)
theorem there_ok (xs : List S36) (a b : Int) (hA : Asc xs (-1) = true) (ht : nOk a b = true) (k : Nat) (hk : xs.length < k) : impl_nodeThere.f k xs a b = some (In xs a b) := by
  obtain ⟨p, hp⟩ := bsf_l0 xs a b hA ht xs.length k 0 xs.length (by omega) (by omega) (by omega) (fun q h hq => by omega) (fun q h hq => by omega) hk
  unfold impl_nodeThere.f impl_bsf.f
  rw [show ((0 : Nat) : Int) = 0 from rfl] at hp
  rw [hp]; rfl
/-- The edges' part of the program's function, where the nodes ascend. -/
theorem edgesOk_l0 (es : List S56) (ns : List S36) (hm : es.length ≤ 2097152) (hA : Asc ns (-1) = true) : ∀ (d k : Nat) (i : Nat) (p : Option S56) (m : List Int), i + d = es.length →
    (i = 0 ∧ p = none ∨ 0 < i ∧ ∃ h : i - 1 < es.length, Eo (es[i - 1]) = true ∧ p = some (es[i - 1])) → ns.length + d + 10 < k → impl_edgesOk.l0 k es ns m i = some (ER ns (es.drop i) p m) := by
  intro d
  induction d with
  | zero =>
    intro k i p m hd hl hk
    obtain ⟨k, rfl⟩ : ∃ m, k = m + 1 := ⟨k - 1, by omega⟩
    simp only [impl_edgesOk.l0]
    rw [if_neg (by omega), List.drop_of_length_le (by omega)]; rfl
  | succ d ih =>
    intro k i p m hd hl hk
    obtain ⟨k, rfl⟩ : ∃ m, k = m + 1 := ⟨k - 1, by omega⟩
    have hi : i < es.length := by omega
    simp only [impl_edgesOk.l0]
    rw [if_pos (by omega), if_pos (by omega), rdE_at hi, List.drop_eq_getElem_cons hi]
    simp only [ER]
    have eEo : EOk (es[i]).f0 (es[i]).f1.f0 (es[i]).f1.f1 (es[i]).f2.f0 (es[i]).f2.f1 = Eo es[i] := rfl
    rw [eEo]
    by_cases c : Eo es[i] = true
    · rw [if_pos c, if_pos c]
      obtain ⟨_, c1, c2, _⟩ := Eo_iff.1 c
      by_cases c7 : rd m (es[i]).f0 = 7
      · rw [if_pos c7, if_pos c7]
      · rw [if_neg c7, if_neg c7]
        simp only [there_ok ns _ _ hA c1 k (by omega), there_ok ns _ _ hA c2 k (by omega), Option.bind_some]
        have ih' := ih k (i + 1) (some es[i]) (m.set ((es[i]).f0).toNat (wrap64 (rd m (es[i]).f0 + 1))) (by omega) (.inr ⟨by omega, by simpa using hi, by simpa using c, by simp⟩) (by omega)
        rw [show ((i + 1 : Nat) : Int) = (i : Int) + 1 by omega] at ih'
        rw [w64 (x := (i : Int) + 1) (by omega), ih']
        have fin : (if In ns (es[i]).f1.f0 (es[i]).f1.f1 = true then (if In ns (es[i]).f2.f0 (es[i]).f2.f1 = true then some (ER ns (es.drop (i + 1)) (some es[i]) (m.set ((es[i]).f0).toNat (wrap64 (rd m (es[i]).f0 + 1)))) else some false) else some false) =
            some (if In ns (es[i]).f1.f0 (es[i]).f1.f1 = true then (if In ns (es[i]).f2.f0 (es[i]).f2.f1 = true then ER ns (es.drop (i + 1)) (some es[i]) (m.set ((es[i]).f0).toNat (wrap64 (rd m (es[i]).f0 + 1))) else false) else false) := by
          split
          · split <;> rfl
          · rfl
        rcases hl with ⟨h0, rfl⟩ | ⟨h0, h1, h2, rfl⟩
        · rw [if_neg (by omega), fin]; rfl
        · rw [if_pos (by omega), w64 (x := (i : Int) - 1) (by omega), if_pos (by omega), if_pos (by omega), show (i : Int) - 1 = ((i - 1 : Nat) : Int) by omega, rdE_at h1]
          obtain ⟨t, ht, hts⟩ := order_ok h2 c k (by omega)
          rw [ht]
          simp only [Option.bind_some]
          by_cases c3 : Lt es[i - 1] es[i] = true
          · rw [if_pos c3, if_neg (fun h => by rw [decide_eq_true h, c3] at hts; cases hts), fin]
          · rw [if_neg c3]
            rw [if_pos (by
              simp only [Bool.not_eq_true] at c3
              rw [c3] at hts
              simpa using hts)]
    · rw [if_neg c, if_neg c]
theorem iGraphOk_ok (ns : List S36) (es : List S56) (hn : ns.length ≤ 2097152) (hm : es.length ≤ 2097152) (k : Nat) (hk : 2 * ns.length + 2 * es.length + 100 < k) : impl_GraphOk.f k ns es = some (GOk ns es) := by
  have z : ∀ a : Nat, a < 8 → rd ([0, 0, 0, 0, 0, 0, 0, 0] : List Int) a = 0 := by
    intro a ha
    unfold rd
    rw [Int.toNat_natCast]
    rcases (show a = 0 ∨ a = 1 ∨ a = 2 ∨ a = 3 ∨ a = 4 ∨ a = 5 ∨ a = 6 ∨ a = 7 by omega) with rfl | rfl | rfl | rfl | rfl | rfl | rfl | rfl <;> rfl
  have h0 := nodesOk_l0 ns hn ns.length k 0 (-1) [0, 0, 0, 0, 0, 0, 0, 0] (by omega) (by omega)
  rw [List.drop_zero, show ((0 : Nat) : Int) = 0 from rfl, NR_eq ns (-1) _ (by omega) (by rfl) (fun a ha => by rw [z a ha]; omega)] at h0
  unfold impl_GraphOk.f impl_nodesOk.f impl_edgesOk.f GOk
  rw [h0]
  simp only [Option.bind_some]
  cases c1 : Asc ns (-1)
  · rfl
  · have h1 := edgesOk_l0 es ns hm c1 es.length k 0 none [0, 0, 0, 0, 0, 0, 0, 0] (by omega) (.inl ⟨rfl, rfl⟩) (by omega)
    rw [List.drop_zero, show ((0 : Nat) : Int) = 0 from rfl, ER_eq ns es none _ (by rfl) (fun a ha => by rw [z a ha]; omega)] at h1
    rw [h1]
    have q1 : ((List.range 8).all fun a => decide (rd ([0, 0, 0, 0, 0, 0, 0, 0] : List Int) a + cN a ns ≤ 5)) = (List.range 8).all fun a => decide (cN a ns ≤ 5) := by
      apply Bool.eq_iff_iff.2
      rw [List.all_eq_true, List.all_eq_true]
      constructor <;> intro h a ha <;> have := h a ha <;> have e := z a (List.mem_range.1 ha) <;> simp [e] at this ⊢ <;> omega
    have q2 : ((List.range 8).all fun a => decide (rd ([0, 0, 0, 0, 0, 0, 0, 0] : List Int) a + cE a es ≤ 7)) = (List.range 8).all fun a => decide (cE a es ≤ 7) := by
      apply Bool.eq_iff_iff.2
      rw [List.all_eq_true, List.all_eq_true]
      constructor <;> intro h a ha <;> have := h a ha <;> have e := z a (List.mem_range.1 ha) <;> simp [e] at this ⊢ <;> omega
    have q3 : Few ns es = (((List.range 8).all fun a => decide (cN a ns ≤ 5)) && ((List.range 8).all fun a => decide (cE a es ≤ 7))) := by
      unfold Few
      apply Bool.eq_iff_iff.2
      simp only [Bool.and_eq_true, List.all_eq_true]
      exact ⟨fun h => ⟨fun a ha => (h a ha).1, fun a ha => (h a ha).2⟩, fun h a ha => ⟨h.1 a ha, h.2 a ha⟩⟩
    rw [q1, q2, q3]
    cases ((List.range 8).all fun a => decide (cN a ns ≤ 5)) <;> cases ((List.range 8).all fun a => decide (cE a es ≤ 7)) <;> cases EAsc ns es none <;> rfl

/-- A node's number. -/
def cd (x : S36) : Int := Cd x.f0 x.f1
/-- Nodes ascend. -/
def SA (xs : List S36) : Prop := xs.Pairwise fun x y => cd x < cd y
theorem SA_uniq : ∀ xs ys : List S36, SA xs → SA ys → (∀ z, z ∈ xs ↔ z ∈ ys) → xs = ys
  | [], [], _, _, _ => rfl
  | [], y :: ys, _, _, h => by have := (h y).2 List.mem_cons_self; simp at this
  | x :: xs, [], _, _, h => by have := (h x).1 List.mem_cons_self; simp at this
  | x :: xs, y :: ys, hx, hy, h => by
    obtain ⟨x1, x2⟩ := List.pairwise_cons.1 hx
    obtain ⟨y1, y2⟩ := List.pairwise_cons.1 hy
    have e : x = y := by
      rcases List.mem_cons.1 ((h x).1 List.mem_cons_self) with e | e
      · exact e
      · rcases List.mem_cons.1 ((h y).2 List.mem_cons_self) with e' | e'
        · exact e'.symm
        · have := y1 x e; have := x1 y e'; omega
    subst e
    rw [SA_uniq xs ys x2 y2 (fun z => ?_)]
    constructor
    · intro hz
      rcases List.mem_cons.1 ((h z).1 (List.mem_cons_of_mem _ hz)) with e | e
      · subst e; have := x1 z hz; omega
      · exact e
    · intro hz
      rcases List.mem_cons.1 ((h z).2 (List.mem_cons_of_mem _ hz)) with e | e
      · subst e; have := y1 z hz; omega
      · exact e
theorem cd_inj {x y : S36} (hx : nOk x.f0 x.f1 = true) (hy : nOk y.f0 y.f1 = true) (h : cd x = cd y) : x = y := by
  unfold cd Cd at h
  rw [if_pos hx, if_pos hy] at h
  obtain ⟨a, b⟩ := x
  obtain ⟨c, d⟩ := y
  have := (Cd_inj hx hy).1 h
  simp only [S36.mk.injEq]
  exact this
/-- The other end of an edge that has a node. -/
def oth (a b : Int) (e : S56) : Option S36 := if (a == e.f1.f0 && (b == e.f1.f1)) = true then some e.f2 else if (a == e.f2.f0 && (b == e.f2.f1)) = true then some e.f1 else none
def adj (es : List S56) (a b : Int) : List S36 := es.filterMap (oth a b)
/-- What is kept behind a node: each that is not the one ahead. -/
def kp : S36 → List S36 → List S36
  | _, [] => []
  | p, x :: t => if (x.f0 == p.f0 && (x.f1 == p.f1)) = true then kp x t else x :: kp x t
def cmpN : List S36 → List S36
  | [] => []
  | x :: t => x :: kp x t
theorem eqN {x p : S36} : (x.f0 == p.f0 && (x.f1 == p.f1)) = true ↔ x = p := by
  obtain ⟨a, b⟩ := x
  obtain ⟨c, d⟩ := p
  simp
theorem kp_mem : ∀ (t : List S36) (p z : S36), z ∈ p :: kp p t ↔ z ∈ p :: t
  | [], p, z => Iff.rfl
  | x :: t, p, z => by
    unfold kp
    by_cases c : (x.f0 == p.f0 && (x.f1 == p.f1)) = true
    · rw [if_pos c]
      obtain rfl := eqN.1 c
      rw [kp_mem t x z]; simp
    · rw [if_neg c, List.mem_cons, kp_mem t x z]
      simp [List.mem_cons]
theorem kp_SA : ∀ (t : List S36) (p : S36), (∀ x ∈ p :: t, nOk x.f0 x.f1 = true) → (p :: t).Pairwise (fun x y => cd x ≤ cd y) → SA (p :: kp p t)
  | [], p, _, _ => by unfold kp SA; simp
  | x :: t, p, ho, hs => by
    obtain ⟨h1, h2⟩ := List.pairwise_cons.1 hs
    have ih := kp_SA t x (fun y hy => ho y (List.mem_cons_of_mem _ hy)) h2
    unfold kp
    by_cases c : (x.f0 == p.f0 && (x.f1 == p.f1)) = true
    · rw [if_pos c]
      obtain rfl := eqN.1 c
      exact ih
    · rw [if_neg c]
      have hpx : cd p < cd x := by
        have h3 := h1 x List.mem_cons_self
        rcases Int.lt_or_eq_of_le h3 with h | h
        · exact h
        · exact absurd (eqN.2 (cd_inj (ho x (by simp)) (ho p (by simp)) h.symm)) c
      refine List.pairwise_cons.2 ⟨fun y hy => ?_, ih⟩
      have hy' := (kp_mem t x y).1 hy
      rcases List.mem_cons.1 hy' with e | e
      · subst e; exact hpx
      · have := (List.pairwise_cons.1 h2).1 y e; omega
theorem cmpN_mem (xs : List S36) (z : S36) : z ∈ cmpN xs ↔ z ∈ xs := by
  cases xs with
  | nil => exact Iff.rfl
  | cons x t => exact kp_mem t x z
theorem cmpN_SA (xs : List S36) (ho : ∀ x ∈ xs, nOk x.f0 x.f1 = true) (hs : xs.Pairwise fun x y => cd x ≤ cd y) : SA (cmpN xs) := by
  cases xs with
  | nil => exact List.Pairwise.nil
  | cons x t => exact kp_SA t x ho hs
theorem w1n (i : Nat) (h : i ≤ 1099511627776) : wrap64 ((i : Int) + 1) = ((i + 1 : Nat) : Int) := by rw [w64 (x := (i : Int) + 1) (by omega)]; omega
theorem w1m (i : Nat) (h : i ≤ 1099511627776) : wrap64 (((i + 1 : Nat) : Int) - 1) = (i : Int) := by rw [w64 (x := ((i + 1 : Nat) : Int) - 1) (by omega)]; omega
theorem cmp_l1 (m : Nat) : ∀ (d k : Nat) (xs : List S36) (w j : Nat) (hj : m + j < xs.length + 1) (_ : w ≤ m + j), xs.length ≤ 2097152 → m + j + 1 + d = xs.length + 1 → d < k → ∀ hq : m + j < xs.length,
    impl_Node_106.l1 k xs (w : Int) (m : Int) ((j + 1 : Nat) : Int) = some (xs.take w ++ kp xs[m + j] (xs.drop (m + j + 1))) := by
  intro d
  induction d with
  | zero => intro k xs w j _ _ _ hd _ hq; omega
  | succ d ih =>
    intro k xs w j hj hw hm hd hk hq
    obtain ⟨k, rfl⟩ : ∃ q, k = q + 1 := ⟨k - 1, by omega⟩
    have hdl : (xs.drop (m : Int).toNat).length = xs.length - m := by simp
    rw [impl_Node_106.l1]
    rw [hdl]
    by_cases c : m + j + 1 < xs.length
    · rw [if_pos (by omega), if_pos (by omega), w1m j (by omega), if_pos (by omega), if_pos (by omega)]
      have r1 : rd_T36 (xs.drop (m : Int).toNat) ((j + 1 : Nat) : Int) = xs[m + j + 1] := by
        rw [rdT_at (show j + 1 < (xs.drop (m : Int).toNat).length by omega)]
        simp [Nat.add_assoc]
      have r2 : rd_T36 (xs.drop (m : Int).toNat) (j : Int) = xs[m + j] := by
        rw [rdT_at (show j < (xs.drop (m : Int).toNat).length by omega)]
        simp
      rw [r1, r2, List.drop_eq_getElem_cons c]
      unfold kp
      by_cases e : (xs[m + j + 1].f0 == xs[m + j].f0 && (xs[m + j + 1].f1 == xs[m + j].f1)) = true
      · rw [if_pos e]
        rw [if_neg (by rw [Bool.and_eq_true] at e; rw [e.1, e.2]; simp)]
        rw [w1n (j + 1) (by omega)]
        exact ih k xs w (j + 1) (by omega) (by omega) hm (by omega) (by omega) c
      · rw [if_neg e]
        rw [if_pos (by rw [Bool.and_eq_true] at e; revert e; cases xs[m + j + 1].f0 == xs[m + j].f0 <;> cases xs[m + j + 1].f1 == xs[m + j].f1 <;> simp)]
        rw [if_pos (by omega), if_pos (by omega), Int.toNat_natCast, w1n w (by omega), w1n (j + 1) (by omega)]
        have hl : (xs.set w (⟨xs[m + j + 1].f0, xs[m + j + 1].f1⟩ : S36)).length = xs.length := by simp
        have := ih k (xs.set w (⟨xs[m + j + 1].f0, xs[m + j + 1].f1⟩ : S36)) (w + 1) (j + 1) (by omega) (by omega) (by omega) (by omega) (by omega) (by omega)
        rw [this]
        have e1 : (xs.set w (⟨xs[m + j + 1].f0, xs[m + j + 1].f1⟩ : S36)).take (w + 1) = xs.take w ++ [xs[m + j + 1]] := by
          rw [List.take_succ_eq_append_getElem (show w < (xs.set w _).length by rw [hl]; omega), List.take_set_of_le (Nat.le_refl _), List.getElem_set_self]
        have e2 : (xs.set w (⟨xs[m + j + 1].f0, xs[m + j + 1].f1⟩ : S36))[m + (j + 1)]'(by omega) = xs[m + j + 1] := by
          rw [List.getElem_set_ne (by omega)]; rfl
        have e3 : (xs.set w (⟨xs[m + j + 1].f0, xs[m + j + 1].f1⟩ : S36)).drop (m + (j + 1) + 1) = xs.drop (m + j + 1 + 1) := by
          rw [List.drop_set_of_lt (by omega)]; rfl
        rw [e1, e2, e3, List.append_assoc]; rfl
    · rw [if_neg (by omega), if_pos (by omega), if_pos (by omega), Int.toNat_natCast, List.drop_of_length_le (by omega)]
      simp [kp]
theorem cmp_l0 (xs : List S36) (hm : xs.length ≤ 2097152) : ∀ (d k : Nat) (i : Nat), i + 1 + d = xs.length → d + 1 < k → ∀ hq : i < xs.length,
    impl_Node_106.l0 k xs ((i + 1 : Nat) : Int) = some (xs.take (i + 1) ++ kp xs[i] (xs.drop (i + 1))) := by
  intro d
  induction d with
  | zero =>
    intro k i hd hk hq
    obtain ⟨k, rfl⟩ : ∃ q, k = q + 1 := ⟨k - 1, by omega⟩
    rw [impl_Node_106.l0]
    rw [if_neg (by omega), List.drop_of_length_le (by omega), List.take_of_length_le (by omega)]
    simp [kp]
  | succ d ih =>
    intro k i hd hk hq
    obtain ⟨k, rfl⟩ : ∃ q, k = q + 1 := ⟨k - 1, by omega⟩
    have c : i + 1 < xs.length := by omega
    rw [impl_Node_106.l0]
    rw [if_pos (by omega), if_pos (by omega), w1m i (by omega), if_pos (by omega), if_pos (by omega), rdT_at c, rdT_at hq, List.drop_eq_getElem_cons c]
    unfold kp
    by_cases e : (xs[i + 1].f0 == xs[i].f0 && (xs[i + 1].f1 == xs[i].f1)) = true
    · rw [if_pos e, if_pos e, if_pos (by omega)]
      exact cmp_l1 (i + 1) (d + 1) k xs (i + 1) 0 (by omega) (by omega) hm (by omega) (by omega) c
    · rw [if_neg e, if_neg e, w1n (i + 1) (by omega), ih k (i + 1) (by omega) (by omega) c]
      rw [List.take_succ_eq_append_getElem c, List.append_assoc]; rfl
theorem cmp_ok (xs : List S36) (hm : xs.length ≤ 2097152) (k : Nat) (hk : xs.length < k) : impl_Node_106.f k xs = some (cmpN xs) := by
  unfold impl_Node_106.f
  match xs, hm, hk with
  | [], _, _ => rfl
  | [x], _, _ => rfl
  | x :: y :: t, hm, hk =>
    rw [if_neg (by simp; omega)]
    exact cmp_l0 (x :: y :: t) hm (t.length + 1) k 0 (by simp; omega) (by simp at hk; omega) (by simp)
/-- The nodes that an edge joins to one, in order, each once. -/
def nearL (es : List S56) (a b : Int) : List S36 := cmpN (srtN (adj es a b))
theorem near_l0 (es : List S56) (hm : es.length ≤ 2097152) (a b : Int) : ∀ (d k : Nat) (i : Nat) (z : List S36), i + d = es.length → z.length ≤ i → d + es.length + 2 < k →
    impl_GraphNear.l0 k z es (es.length : Int) (i : Int) a b = some (cmpN (srtN (z ++ adj (es.drop i) a b))) := by
  intro d
  induction d with
  | zero =>
    intro k i z hd hz hk
    obtain ⟨k, rfl⟩ : ∃ q, k = q + 1 := ⟨k - 1, by omega⟩
    rw [impl_GraphNear.l0]
    rw [if_neg (by omega), List.drop_of_length_le (by omega)]
    have e : z ++ adj [] a b = z := by simp [adj]
    rw [e]
    unfold impl_Node_104.f
    rw [if_pos (by omega)]
    simp only [Option.bind_some]
    rw [cmp_ok _ (by rw [srtN_len]; omega) k (by rw [srtN_len]; omega)]
    rfl
  | succ d ih =>
    intro k i z hd hz hk
    obtain ⟨k, rfl⟩ : ∃ q, k = q + 1 := ⟨k - 1, by omega⟩
    have hi : i < es.length := by omega
    rw [impl_GraphNear.l0]
    rw [if_pos (by omega), if_pos (by omega), if_pos (by omega), rdE_at hi, List.drop_eq_getElem_cons hi, w1n i (by omega)]
    unfold adj
    rw [List.filterMap_cons]
    unfold oth
    by_cases c1 : (a == es[i].f1.f0 && (b == es[i].f1.f1)) = true
    · rw [if_pos c1, if_pos c1, if_pos (by omega)]
      rw [ih k (i + 1) _ (by omega) (by simp; omega) (by omega)]
      simp only [List.append_assoc]; rfl
    · rw [if_neg c1, if_neg c1]
      by_cases c2 : (a == es[i].f2.f0 && (b == es[i].f2.f1)) = true
      · rw [if_pos c2, if_pos c2, if_pos (by omega)]
        rw [ih k (i + 1) _ (by omega) (by simp; omega) (by omega)]
        simp only [List.append_assoc]; rfl
      · rw [if_neg c2, if_neg c2]
        exact ih k (i + 1) z (by omega) (by omega) (by omega)
theorem iNear (ns : List S36) (es : List S56) (a b : Int) (hn : ns.length ≤ 2097152) (hm : es.length ≤ 2097152) (k : Nat) (hk : 2 * ns.length + 2 * es.length + 100 < k) : impl_GraphNear.f k ns es a b = some (if GOk ns es = true then nearL es a b else []) := by
  unfold impl_GraphNear.f
  rw [iGraphOk_ok ns es hn hm k hk]
  simp only [Option.bind_some]
  by_cases h : GOk ns es = true
  · rw [if_pos h, if_pos h]
    exact near_l0 es hm a b es.length k 0 [] (by omega) (by simp) (by omega)
  · rw [if_neg h, if_neg h]
/-- Ends of edges of a right graph are right, and among its nodes. -/
theorem EAsc_in (ns : List S36) : ∀ (es : List S56) (p : Option S56), EAsc ns es p = true → ∀ e ∈ es, In ns e.f1.f0 e.f1.f1 = true ∧ In ns e.f2.f0 e.f2.f1 = true
  | [], _, _, e, he => by simp at he
  | x :: es, p, h, e, he => by
    simp only [EAsc, Bool.and_eq_true] at h
    rcases List.mem_cons.1 he with rfl | he
    · exact ⟨h.2.2.1, h.2.2.2.1⟩
    · exact EAsc_in ns es _ h.2.2.2.2 e he
theorem adj_ok {ns : List S36} {es : List S56} (h : GOk ns es = true) (a b : Int) : ∀ x ∈ adj es a b, nOk x.f0 x.f1 = true := by
  intro x hx
  simp only [GOk, Bool.and_eq_true] at h
  unfold adj at hx
  obtain ⟨e, he, ho⟩ := List.mem_filterMap.1 hx
  have hE := (Eo_iff.1 (EAsc_ok ns es none h.2.1 e he))
  unfold oth at ho
  split at ho
  · obtain rfl := Option.some.inj ho; exact hE.2.2.1
  · split at ho
    · obtain rfl := Option.some.inj ho; exact hE.2.1
    · cases ho
theorem nearL_mem (es : List S56) (a b : Int) (z : S36) : z ∈ nearL es a b ↔ z ∈ adj es a b := by
  unfold nearL
  rw [cmpN_mem]
  exact (srtN_perm _).mem_iff
theorem nearL_SA {ns : List S36} {es : List S56} (h : GOk ns es = true) (a b : Int) : SA (nearL es a b) :=
  cmpN_SA _ (fun x hx => adj_ok h a b x ((srtN_perm _).mem_iff.1 hx)) (srtN_sorted _)

/-- A node put into a row, ahead of the first that is not less. -/
def putN (xs : List S36) (x : S36) : List S36 := xs.takeWhile (fun y => decide (cd y < cd x)) ++ x :: xs.dropWhile (fun y => decide (cd y < cd x))
theorem l2Code_ok {a b : Int} (h : nOk a b = true) : spec_l2Code.f a b = some (Cd a b) := by
  unfold spec_l2Code.f Cd
  have := nOk_iff.1 h
  rw [if_pos h, w64 (x := a * 64) (by omega), w64 (x := a * 64 + b) (by omega)]
  congr 1; omega
theorem tw_take (p : S36 → Bool) : ∀ (xs : List S36) (i : Nat), i ≤ xs.length → (∀ j (h : j < xs.length), j < i → p xs[j] = true) → (∀ h : i < xs.length, p xs[i] = false) → xs.takeWhile p = xs.take i ∧ xs.dropWhile p = xs.drop i
  | [], i, hi, _, _ => by simp
  | x :: xs, 0, _, _, h => by
    have := h (by simp)
    simp only [List.getElem_cons_zero] at this
    simp [List.takeWhile_cons, List.dropWhile_cons, this]
  | x :: xs, i + 1, hi, h1, h2 => by
    have h0 := h1 0 (by simp) (by omega)
    simp only [List.getElem_cons_zero] at h0
    obtain ⟨e1, e2⟩ := tw_take p xs i (by simpa using hi) (fun j hj hji => by
      have := h1 (j + 1) (by simp; omega) (by omega)
      simpa using this) (fun h => by
      have := h2 (by simp; omega)
      simpa using this)
    simp [List.takeWhile_cons, List.dropWhile_cons, h0, e1, e2]
theorem put_l0 (xs : List S36) (es : List S56) (x : S36) (hm : xs.length ≤ 2097152) (ho : ∀ y ∈ xs, nOk y.f0 y.f1 = true) (hx : nOk x.f0 x.f1 = true) : ∀ (d k i : Nat), i + d = xs.length → (∀ j (h : j < xs.length), j < i → decide (cd xs[j] < cd x) = true) → d < k →
    spec_l2PutNode.l0 k (i : Int) xs es x.f0 x.f1 = some (putN xs x, es) := by
  have fin : ∀ i, i ≤ xs.length → xs.takeWhile (fun y => decide (cd y < cd x)) = xs.take i → xs.dropWhile (fun y => decide (cd y < cd x)) = xs.drop i →
      putN xs x = xs.take i ++ [(⟨x.f0, x.f1⟩ : S36)] ++ (([] : List S36) ++ xs.drop i) := by
    intro i _ e1 e2
    unfold putN
    rw [e1, e2]; simp
  intro d
  induction d with
  | zero =>
    intro k i hd hlt hk
    obtain ⟨k, rfl⟩ : ∃ q, k = q + 1 := ⟨k - 1, by omega⟩
    obtain ⟨e1, e2⟩ := tw_take (fun y => decide (cd y < cd x)) xs i (by omega) hlt (fun h => by omega)
    have l1 : (xs.take i).length ≤ 2097152 := by rw [List.length_take]; omega
    have l2 : (xs.drop i).length ≤ 2097152 := by rw [List.length_drop]; omega
    rw [spec_l2PutNode.l0, fin i (by omega) e1 e2]
    rw [if_neg (by omega)]
    simp only [Option.bind_some, Int.toNat_natCast, List.nil_append, List.length_nil]
    rw [if_pos (by omega), if_pos (by omega), if_pos (by omega), if_pos (by omega), if_pos (by simp; omega)]
  | succ d ih =>
    intro k i hd hlt hk
    obtain ⟨k, rfl⟩ : ∃ q, k = q + 1 := ⟨k - 1, by omega⟩
    have hi : i < xs.length := by omega
    rw [spec_l2PutNode.l0]
    rw [if_pos (by omega), if_pos (by omega), rdT_at hi, l2Code_ok (ho _ (List.getElem_mem hi)), l2Code_ok hx]
    simp only [Option.bind_some]
    by_cases c : Cd xs[i].f0 xs[i].f1 < Cd x.f0 x.f1
    · rw [if_pos c, w1n i (by omega)]
      exact ih k (i + 1) (by omega) (fun j hj hji => by
        rcases Nat.lt_or_eq_of_le (Nat.lt_succ_iff.1 hji) with h | h
        · exact hlt j hj h
        · subst h; exact decide_eq_true c) (by omega)
    · rw [if_neg c]
      obtain ⟨e1, e2⟩ := tw_take (fun y => decide (cd y < cd x)) xs i (by omega) hlt (fun h => decide_eq_false c)
      have l1 : (xs.take i).length ≤ 2097152 := by rw [List.length_take]; omega
      have l2 : (xs.drop i).length ≤ 2097152 := by rw [List.length_drop]; omega
      rw [fin i (by omega) e1 e2]
      simp only [Int.toNat_natCast, List.nil_append, List.length_nil]
      rw [if_pos (by omega), if_pos (by omega), if_pos (by omega), if_pos (by simp; omega)]
theorem putN_len (xs : List S36) (x : S36) : (putN xs x).length = xs.length + 1 := by
  have h := congrArg List.length (List.takeWhile_append_dropWhile (p := fun y => decide (cd y < cd x)) (l := xs))
  rw [List.length_append] at h
  unfold putN
  rw [List.length_append, List.length_cons]; omega
theorem putN_mem (xs : List S36) (x z : S36) : z ∈ putN xs x ↔ z ∈ xs ∨ z = x := by
  have h := List.takeWhile_append_dropWhile (p := fun y => decide (cd y < cd x)) (l := xs)
  unfold putN
  conv => rhs; rw [← h]
  simp only [List.mem_append, List.mem_cons]
  constructor
  · rintro (h | rfl | h)
    · exact .inl (.inl h)
    · exact .inr rfl
    · exact .inl (.inr h)
  · rintro ((h | h) | rfl)
    · exact .inl h
    · exact .inr (.inr h)
    · exact .inr (.inl rfl)
theorem putN_SA : ∀ (xs : List S36) (x : S36), SA xs → (∀ y ∈ xs, cd y ≠ cd x) → SA (putN xs x)
  | [], x, _, _ => by simp [putN, SA]
  | y :: xs, x, h, hne => by
    obtain ⟨h1, h2⟩ := List.pairwise_cons.1 h
    by_cases c : cd y < cd x
    · have ih := putN_SA xs x h2 (fun z hz => hne z (List.mem_cons_of_mem _ hz))
      have e : putN (y :: xs) x = y :: putN xs x := by simp [putN, List.takeWhile_cons, List.dropWhile_cons, c]
      rw [e]
      refine List.pairwise_cons.2 ⟨fun z hz => ?_, ih⟩
      rcases (putN_mem xs x z).1 hz with hz | rfl
      · exact h1 z hz
      · exact c
    · have e : putN (y :: xs) x = x :: y :: xs := by simp [putN, List.takeWhile_cons, List.dropWhile_cons, c]
      rw [e]
      have hxy : cd x < cd y := by have := hne y List.mem_cons_self; omega
      refine List.pairwise_cons.2 ⟨fun z hz => ?_, h⟩
      rcases List.mem_cons.1 hz with rfl | hz
      · exact hxy
      · have := h1 z hz; omega
theorem In_mem {ns : List S36} {x : S36} : In ns x.f0 x.f1 = true ↔ x ∈ ns := by
  unfold In
  rw [List.any_eq_true]
  constructor
  · rintro ⟨y, hy, e⟩
    exact (eqN.1 e) ▸ hy
  · intro h
    exact ⟨x, h, by simp⟩
/-- One node more, or the next edge. -/
theorem near_j1 (ns : List S36) (es : List S56) (a b : Int) (i : Nat) (out : List S36) (x : S36) (R : List S36 → Prop) (hl : out.length ≤ 1000) (hi : i ≤ 1000)
    (hS : SA out) (ho : ∀ y ∈ out, nOk y.f0 y.f1 = true) (hx : nOk x.f0 x.f1 = true) (k : Nat) (hk : 3000 < k)
    (nx : ∀ out' : List S36, out'.length ≤ out.length + 1 → SA out' → (∀ z, z ∈ out' ↔ z ∈ out ∨ z = x) → ∃ r, spec_l2Near.l0 k ((i + 1 : Nat) : Int) ns es a b out' [] = some r ∧ R r) :
    ∃ r, spec_l2Near.j1 (k + 1) (i : Int) ns es a b out [] x.f0 x.f1 = some r ∧ R r := by
  rw [spec_l2Near.j1]
  obtain ⟨q, q1, q2⟩ := at_ok out [] (by omega) x.f0 x.f1 k (by omega)
  rw [q1]
  simp only [Option.bind_some]
  rw [w1n i (by omega)]
  by_cases c : q < 0
  · rw [if_pos c]
    rw [decide_eq_true c] at q2
    have hn : x ∉ out := fun h => by rw [In_mem.2 h] at q2; simp at q2
    have hp := put_l0 out [] x (by omega) ho hx out.length k 0 (by omega) (fun j _ hj => by omega) (by omega)
    unfold spec_l2PutNode.f
    rw [show (0 : Int) = ((0 : Nat) : Int) from rfl, hp]
    simp only [Option.bind_some]
    exact nx (putN out x) (by rw [putN_len]; omega) (putN_SA out x hS (fun y hy e => hn (cd_inj (ho y hy) hx e ▸ hy))) (putN_mem out x)
  · rw [if_neg c]
    rw [decide_eq_false c] at q2
    have hy : x ∈ out := In_mem.1 (by revert q2; cases In out x.f0 x.f1 <;> simp)
    exact nx out (by omega) hS (fun z => ⟨fun h => .inl h, fun h => h.elim id (fun e => e ▸ hy)⟩)
theorem snear_l0 (ns : List S36) (es : List S56) (h : GOk ns es = true) (a b : Int) : ∀ (d k : Nat) (i : Nat) (out : List S36), i + d = es.length → out.length ≤ i → SA out → (∀ y ∈ out, nOk y.f0 y.f1 = true) → 3000 + 2 * d < k →
    ∃ r, spec_l2Near.l0 k (i : Int) ns es a b out [] = some r ∧ SA r ∧ ∀ z, z ∈ r ↔ z ∈ out ∨ z ∈ adj (es.drop i) a b := by
  have h' := h
  simp only [GOk, Bool.and_eq_true] at h'
  have hL := Few_lenE h'.2.2 h'.2.1
  intro d
  induction d with
  | zero =>
    intro k i out hd hl hS ho hk
    obtain ⟨k, rfl⟩ : ∃ q, k = q + 1 := ⟨k - 1, by omega⟩
    rw [spec_l2Near.l0]
    rw [if_neg (by omega), List.drop_of_length_le (by omega)]
    simp only [Option.bind_some, List.nil_append, List.length_nil]
    rw [if_pos (by omega)]
    exact ⟨out, rfl, hS, fun z => by simp [adj]⟩
  | succ d ih =>
    intro k i out hd hl hS ho hk
    obtain ⟨k, rfl⟩ : ∃ q, k = q + 2 := ⟨k - 2, by omega⟩
    have hi : i < es.length := by omega
    have hE := (Eo_iff.1 (EAsc_ok ns es none h'.2.1 es[i] (List.getElem_mem hi)))
    rw [spec_l2Near.l0]
    rw [if_pos (by omega), if_pos (by omega), rdE_at hi, List.drop_eq_getElem_cons hi]
    have hadj : adj (es[i] :: es.drop (i + 1)) a b = (oth a b es[i]).toList ++ adj (es.drop (i + 1)) a b := by
      unfold adj
      rw [List.filterMap_cons]
      cases oth a b es[i] <;> rfl
    rw [hadj]
    have eA : ((es[i].f1.f0 == a) && (es[i].f1.f1 == b)) = (a == es[i].f1.f0 && (b == es[i].f1.f1)) := by rw [Bool.beq_comm (a := es[i].f1.f0), Bool.beq_comm (a := es[i].f1.f1)]
    have eB : ((es[i].f2.f0 == a) && (es[i].f2.f1 == b)) = (a == es[i].f2.f0 && (b == es[i].f2.f1)) := by rw [Bool.beq_comm (a := es[i].f2.f0), Bool.beq_comm (a := es[i].f2.f1)]
    have go : ∀ x : S36, nOk x.f0 x.f1 = true → ∃ r, spec_l2Near.j1 (k + 1) (i : Int) ns es a b out [] x.f0 x.f1 = some r ∧ SA r ∧ ∀ z, z ∈ r ↔ z ∈ out ∨ z ∈ [x] ++ adj (es.drop (i + 1)) a b := by
      intro x hx
      refine near_j1 ns es a b i out x _ (by omega) (by omega) hS ho hx k (by omega) (fun out' hl' hS' hm' => ?_)
      obtain ⟨r, r1, r2, r3⟩ := ih k (i + 1) out' (by omega) (by omega) hS' (fun y hy => by
        rcases (hm' y).1 hy with h | rfl
        · exact ho y h
        · exact hx) (by omega)
      refine ⟨r, r1, r2, fun z => ?_⟩
      rw [r3, hm']
      simp only [List.mem_append, List.mem_singleton]
      constructor
      · rintro ((h | h) | h)
        · exact .inl h
        · exact .inr (.inl h)
        · exact .inr (.inr h)
      · rintro (h | h | h)
        · exact .inl (.inl h)
        · exact .inl (.inr h)
        · exact .inr h
    unfold oth
    by_cases c1 : (a == es[i].f1.f0 && (b == es[i].f1.f1)) = true
    · rw [if_pos (eA.trans c1), if_pos c1]
      exact go es[i].f2 hE.2.2.1
    · rw [if_neg (fun q => c1 (eA.symm.trans q)), if_neg c1]
      by_cases c2 : (a == es[i].f2.f0 && (b == es[i].f2.f1)) = true
      · rw [if_neg (by rw [← eB, Bool.and_eq_true] at c2; rw [c2.1, c2.2]; simp), if_pos c2]
        exact go es[i].f1 hE.2.1
      · rw [if_pos (by
          rw [← eB] at c2; revert c2
          cases es[i].f2.f0 == a <;> cases es[i].f2.f1 == b <;> simp), if_neg c2, w1n i (by omega)]
        exact ih (k + 1) (i + 1) out (by omega) (by omega) hS ho (by omega)
theorem sl2Near (ns : List S36) (es : List S56) (h : GOk ns es = true) (a b : Int) (k : Nat) (hk : 3200 < k) : spec_l2Near.f k ns es a b = some (nearL es a b) := by
  have h' := h
  simp only [GOk, Bool.and_eq_true] at h'
  have hL := Few_lenE h'.2.2 h'.2.1
  obtain ⟨r, r1, r2, r3⟩ := snear_l0 ns es h a b es.length k 0 [] (by omega) (by simp) List.Pairwise.nil (by simp) (by omega)
  unfold spec_l2Near.f
  rw [show (0 : Int) = ((0 : Nat) : Int) from rfl, r1]
  congr 1
  refine SA_uniq _ _ r2 (nearL_SA h a b) (fun z => ?_)
  rw [r3, nearL_mem]; simp

/-- Where a node stands. -/
def ps (ns : List S36) (x : S36) : Nat := ns.findIdx fun y => y.f0 == x.f0 && (y.f1 == x.f1)
theorem ps_lt {ns : List S36} {x : S36} (h : x ∈ ns) : ps ns x < ns.length := by
  unfold ps
  exact List.findIdx_lt_length_of_exists ⟨x, h, by simp⟩
theorem ps_get {ns : List S36} {x : S36} (h : x ∈ ns) : ns[ps ns x]'(ps_lt h) = x := by
  have := List.findIdx_getElem (xs := ns) (p := fun y : S36 => y.f0 == x.f0 && (y.f1 == x.f1)) (w := ps_lt h)
  exact eqN.1 this
theorem SA_get {ns : List S36} (h : SA ns) {i j : Nat} (hi : i < ns.length) (hj : j < ns.length) (e : ns[i] = ns[j]) : i = j := by
  rcases Nat.lt_trichotomy i j with c | c | c
  · have := (List.pairwise_iff_getElem.1 h) i j hi hj c; rw [e] at this; omega
  · exact c
  · have := (List.pairwise_iff_getElem.1 h) j i hj hi c; rw [e] at this; omega
theorem ps_at {ns : List S36} (h : SA ns) {i : Nat} (hi : i < ns.length) : ps ns ns[i] = i :=
  SA_get h (ps_lt (List.getElem_mem hi)) hi (ps_get (List.getElem_mem hi))
theorem Asc_SA {ns : List S36} {l : Int} (h : Asc ns l = true) : SA ns :=
  List.pairwise_iff_getElem.2 fun i j hi hj hij => Asc_mono ns l h i j hij hj
/-- The place, or -1. -/
def pz (ns : List S36) (x : S36) : Int := if In ns x.f0 x.f1 = true then (ps ns x : Int) else -1
theorem pz_in {ns : List S36} {x : S36} (h : x ∈ ns) : pz ns x = (ps ns x : Int) := by unfold pz; rw [if_pos (In_mem.2 h)]
theorem l2At_l0 (ns : List S36) (es : List S56) (hm : ns.length ≤ 2097152) (x : S36) : ∀ (d k i : Nat), i + d = ns.length → (∀ j (h : j < ns.length), j < i → (ns[j].f0 == x.f0 && (ns[j].f1 == x.f1)) = false) → d < k → spec_l2At.l0 k (i : Int) ns es x.f0 x.f1 = some (pz ns x) := by
  intro d
  induction d with
  | zero =>
    intro k i hd hn hk
    obtain ⟨k, rfl⟩ : ∃ q, k = q + 1 := ⟨k - 1, by omega⟩
    rw [spec_l2At.l0]
    rw [if_neg (by omega)]
    unfold pz
    rw [if_neg]
    intro h
    have hx := In_mem.1 h
    have := hn (ps ns x) (ps_lt hx) (by have := ps_lt hx; omega)
    rw [ps_get hx] at this
    simp at this
  | succ d ih =>
    intro k i hd hn hk
    obtain ⟨k, rfl⟩ : ∃ q, k = q + 1 := ⟨k - 1, by omega⟩
    have hi : i < ns.length := by omega
    rw [spec_l2At.l0]
    rw [if_pos (by omega), if_pos (by omega), rdT_at hi]
    by_cases c : (ns[i].f0 == x.f0 && (ns[i].f1 == x.f1)) = true
    · rw [if_pos c]
      have e : ps ns x = i := by
        unfold ps
        rw [List.findIdx_eq hi]
        exact ⟨c, fun j hj => hn j (by omega) hj⟩
      have hx : x ∈ ns := (eqN.1 c) ▸ List.getElem_mem hi
      rw [pz_in hx, e]
    · rw [if_neg c, w1n i (by omega)]
      exact ih k (i + 1) (by omega) (fun j hj hji => by
        rcases Nat.lt_or_eq_of_le (Nat.lt_succ_iff.1 hji) with h | h
        · exact hn j hj h
        · subst h; simpa using c) (by omega)
theorem l2At_ok (ns : List S36) (es : List S56) (hm : ns.length ≤ 2097152) (x : S36) (k : Nat) (hk : ns.length < k) : spec_l2At.f k ns es x.f0 x.f1 = some (pz ns x) := by
  unfold spec_l2At.f
  exact l2At_l0 ns es hm x ns.length k 0 (by omega) (fun j _ h => by omega) hk
theorem bsf_hit (xs : List S36) (a b : Int) : ∀ (k : Nat) (i j p : Int), 0 ≤ i → impl_bsf.l0 k xs a b i j = some (p, true) → 0 ≤ p ∧ p < xs.length ∧ (oN (rd_T36 xs p).f0 (rd_T36 xs p).f1 a b == 0) = true := by
  intro k
  induction k with
  | zero => intro i j p _ h; simp [impl_bsf.l0] at h
  | succ k ih =>
    intro i j p hi h
    rw [impl_bsf.l0] at h
    by_cases c : i < j
    · rw [if_pos c] at h
      by_cases c2 : oN (rd_T36 xs ((i + j) / 2)).f0 (rd_T36 xs ((i + j) / 2)).f1 a b < 0
      · rw [if_pos c2] at h; exact ih _ _ _ (by omega) h
      · rw [if_neg c2] at h; exact ih _ _ _ hi h
    · rw [if_neg c] at h
      simp only [Option.some.injEq, Prod.mk.injEq] at h
      obtain ⟨rfl, h⟩ := h
      by_cases c2 : i < (xs.length : Int)
      · rw [if_pos c2] at h; exact ⟨hi, c2, h⟩
      · rw [if_neg c2] at h; cases h
theorem place_ok {ns : List S36} (es : List S56) (hA : Asc ns (-1) = true) (x : S36) (k : Nat) (hk : ns.length < k) : impl_nodePlace.f k ns es x.f0 x.f1 = some (pz ns x) := by
  unfold impl_nodePlace.f
  by_cases ht : nOk x.f0 x.f1 = true
  · rw [if_pos ht]
    obtain ⟨p, hp⟩ := bsf_l0 ns x.f0 x.f1 hA ht ns.length k 0 ns.length (by omega) (by omega) (by omega) (fun q h hq => by omega) (fun q h hq => by omega) hk
    unfold impl_bsf.f
    rw [show ((0 : Nat) : Int) = 0 from rfl] at hp
    rw [hp]
    simp only [Option.bind_some]
    unfold pz
    by_cases h : In ns x.f0 x.f1 = true
    · rw [if_pos h, if_pos h]
      rw [h] at hp
      obtain ⟨h0, h1, h2⟩ := bsf_hit ns x.f0 x.f1 k 0 ns.length p (by omega) hp
      obtain ⟨q, rfl⟩ := Int.eq_ofNat_of_zero_le h0
      have hq : q < ns.length := by omega
      rw [rdT_at hq] at h2
      have e := oN_zero.1 h2
      have o := (Asc_ok ns (-1) (by omega) hA _ (List.getElem_mem hq)).1
      have e2 : ns[q] = x := cd_inj o ht e
      have := ps_at (Asc_SA hA) hq
      rw [e2] at this
      rw [this]
    · rw [if_neg h, if_neg h]
  · rw [if_neg ht]
    unfold pz
    rw [if_neg]
    intro h
    have hx := In_mem.1 h
    exact ht (Asc_ok ns (-1) (by omega) hA x hx).1
theorem GOk_parts {ns : List S36} {es : List S56} (h : GOk ns es = true) : Asc ns (-1) = true ∧ EAsc ns es none = true ∧ ns.length ≤ 40 ∧ es.length ≤ 56 := by
  simp only [GOk, Bool.and_eq_true] at h
  exact ⟨h.1, h.2.1, Few_len h.2.2 h.1, Few_lenE h.2.2 h.2.1⟩
theorem near_in {ns : List S36} {es : List S56} (h : GOk ns es = true) (a b : Int) {x : S36} (hx : x ∈ nearL es a b) : x ∈ ns := by
  rw [nearL_mem] at hx
  unfold adj at hx
  obtain ⟨e, he, ho⟩ := List.mem_filterMap.1 hx
  have hE := EAsc_in ns es none (GOk_parts h).2.1 e he
  unfold oth at ho
  split at ho
  · obtain rfl := Option.some.inj ho; exact In_mem.1 hE.2
  · split at ho
    · obtain rfl := Option.some.inj ho; exact In_mem.1 hE.1
    · cases ho
/-- An edge joins one to the other. -/
theorem near_sym {ns : List S36} {es : List S56} (h : GOk ns es = true) {x y : S36} (hx : x ∈ nearL es y.f0 y.f1) : y ∈ nearL es x.f0 x.f1 := by
  rw [nearL_mem] at hx ⊢
  unfold adj at hx ⊢
  obtain ⟨e, he, ho⟩ := List.mem_filterMap.1 hx
  have hE := Eo_iff.1 (EAsc_ok ns es none (GOk_parts h).2.1 e he)
  refine List.mem_filterMap.2 ⟨e, he, ?_⟩
  unfold oth at ho ⊢
  by_cases c1 : (y.f0 == e.f1.f0 && (y.f1 == e.f1.f1)) = true
  · rw [if_pos c1] at ho
    obtain rfl := Option.some.inj ho
    have ey : y = e.f1 := eqN.1 c1
    rw [if_neg, if_pos (by simp), ey]
    intro q
    have := eqN.1 q
    rw [this] at hE
    omega
  · rw [if_neg c1] at ho
    by_cases c2 : (y.f0 == e.f2.f0 && (y.f1 == e.f2.f1)) = true
    · rw [if_pos c2] at ho
      obtain rfl := Option.some.inj ho
      have ey : y = e.f2 := eqN.1 c2
      rw [if_pos (by simp), ey]
    · rw [if_neg c2] at ho; cases ho
theorem near_irr {ns : List S36} {es : List S56} (h : GOk ns es = true) (x : S36) : x ∉ nearL es x.f0 x.f1 := by
  intro hx
  rw [nearL_mem] at hx
  unfold adj at hx
  obtain ⟨e, he, ho⟩ := List.mem_filterMap.1 hx
  have hE := Eo_iff.1 (EAsc_ok ns es none (GOk_parts h).2.1 e he)
  unfold oth at ho
  by_cases c1 : (x.f0 == e.f1.f0 && (x.f1 == e.f1.f1)) = true
  · rw [if_pos c1] at ho
    have e2 := Option.some.inj ho
    have ey := eqN.1 c1
    rw [← ey, e2] at hE; omega
  · rw [if_neg c1] at ho
    by_cases c2 : (x.f0 == e.f2.f0 && (x.f1 == e.f2.f1)) = true
    · rw [if_pos c2] at ho
      have e2 := Option.some.inj ho
      have ey := eqN.1 c2
      rw [← ey, e2] at hE; omega
    · rw [if_neg c2] at ho; cases ho
theorem nearL_len (es : List S56) (a b : Int) : (nearL es a b).length ≤ es.length := by
  have h1 : ∀ (t : List S36) (p : S36), (kp p t).length ≤ t.length := by
    intro t
    induction t with
    | nil => intro p; simp [kp]
    | cons x t ih =>
      intro p
      unfold kp
      split
      · have := ih x; simp; omega
      · have := ih x; simp; omega
  have h2 : ∀ t : List S36, (cmpN t).length ≤ t.length := by
    intro t
    cases t with
    | nil => simp [cmpN]
    | cons x t => have := h1 t x; simp [cmpN]; omega
  have h3 := h2 (srtN (adj es a b))
  rw [srtN_len] at h3
  have : (adj es a b).length ≤ es.length := List.length_filterMap_le _ _
  unfold nearL; omega
/-- The places of those near the node at a place. -/
def nbz (ns : List S36) (es : List S56) (x : S36) : List Int := (nearL es x.f0 x.f1).map fun y => ((ps ns y : Nat) : Int)
def NP (ns : List S36) (es : List S56) : List (List Int) := ns.map (nbz ns es)
theorem rdL_at {xs : List (List Int)} {i : Nat} (h : i < xs.length) : rd_L9 xs (i : Int) = xs[i] := by
  unfold rd_L9; rw [Int.toNat_natCast, List.getD_eq_getElem?_getD, List.getElem?_eq_getElem h]; rfl
theorem np_l1 {ns : List S36} {es : List S56} (h : GOk ns es = true) (i : Nat) (hi : i < ns.length) (L : List S36) (hL : ∀ y ∈ L, y ∈ ns) (hLl : L.length ≤ 56) (R : Option (List (List Int))) (K : Nat) (hK : 100 < K) :
    ∀ (d k j : Nat) (X : List (List Int)) (hX : X.length = ns.length), j + d = L.length → (X[i]'(by omega)).length ≤ j → K + d < k →
    (∀ q, K ≤ q → impl_nearPlaces.l0 q (X.set i (X[i]'(by omega) ++ (L.drop j).map fun y => ((ps ns y : Nat) : Int))) ns (ns.length : Int) ((i + 1 : Nat) : Int) ns es = R) →
    impl_nearPlaces.l1 k X (i : Int) ns (ns.length : Int) (i : Int) L (L.length : Int) (j : Int) ns es = R := by
  obtain ⟨hA, _, hn, _⟩ := GOk_parts h
  intro d
  induction d with
  | zero =>
    intro k j X hX hd hl hk hR
    obtain ⟨k, rfl⟩ : ∃ q, k = q + 1 := ⟨k - 1, by omega⟩
    rw [impl_nearPlaces.l1]
    rw [if_neg (by omega), w1n i (by omega)]
    rw [List.drop_of_length_le (by omega), List.map_nil, List.append_nil, List.set_getElem_self] at hR
    exact hR k (by omega)
  | succ d ih =>
    intro k j X hX hd hl hk hR
    obtain ⟨k, rfl⟩ : ∃ q, k = q + 1 := ⟨k - 1, by omega⟩
    have hj : j < L.length := by omega
    rw [impl_nearPlaces.l1]
    rw [if_pos (by omega), if_pos (by omega), if_pos (by omega), if_pos (by omega), if_pos (by omega), rdT_at hj, place_ok es hA L[j] k (by omega), pz_in (hL _ (List.getElem_mem hj))]
    simp only [Option.bind_some]
    rw [rdL_at (show i < X.length by omega), if_pos (by omega), w1n j (by omega), Int.toNat_natCast]
    refine ih k (j + 1) _ (by simpa using hX) (by omega) (by simp; omega) (by omega) (fun q hq => ?_)
    have := hR q hq
    rw [List.drop_eq_getElem_cons hj, List.map_cons] at this
    rw [← this]
    simp
theorem np_l0 {ns : List S36} {es : List S56} (h : GOk ns es = true) : ∀ (d k i : Nat) (X : List (List Int)), X.length = ns.length → i + d = ns.length → (∀ j (hj : j < X.length), i ≤ j → X[j] = []) → 1000 + 60 * d < k →
    impl_nearPlaces.l0 k X ns (ns.length : Int) (i : Int) ns es = some (X.take i ++ (ns.drop i).map (nbz ns es)) := by
  obtain ⟨hA, _, hn, hm⟩ := GOk_parts h
  intro d
  induction d with
  | zero =>
    intro k i X hX hd hz hk
    obtain ⟨k, rfl⟩ : ∃ q, k = q + 1 := ⟨k - 1, by omega⟩
    rw [impl_nearPlaces.l0]
    rw [if_neg (by omega), List.drop_of_length_le (by omega), List.take_of_length_le (by omega), List.map_nil, List.append_nil]
  | succ d ih =>
    intro k i X hX hd hz hk
    obtain ⟨k, rfl⟩ : ∃ q, k = q + 1 := ⟨k - 1, by omega⟩
    have hi : i < ns.length := by omega
    rw [impl_nearPlaces.l0]
    rw [if_pos (by omega), if_pos (by omega), if_pos (by omega), rdT_at hi, iNear ns es _ _ (by omega) (by omega) k (by omega), if_pos h]
    simp only [Option.bind_some]
    have hl := nearL_len es ns[i].f0 ns[i].f1
    have hzi := hz i (by omega) (Nat.le_refl _)
    refine np_l1 h i hi (nearL es ns[i].f0 ns[i].f1) (fun y hy => near_in h _ _ hy) (by omega) _ (1000 + 60 * d + 1) (by omega) _ k 0 X hX (by simp; rfl) (by rw [hzi]; simp) (by omega) (fun q hq => ?_)
    rw [ih q (i + 1) _ (by simpa using hX) (by omega) (fun j hj hij => by
      rw [List.getElem_set_ne (by omega)]
      exact hz j (by simpa using hj) (by omega)) (by omega)]
    rw [hzi, List.nil_append, List.drop_zero, List.drop_eq_getElem_cons hi, List.map_cons]
    rw [List.take_succ_eq_append_getElem (by simp; omega), List.take_set_of_le (Nat.le_refl _), List.getElem_set_self, List.append_assoc]
    rfl
theorem np_ok {ns : List S36} {es : List S56} (h : GOk ns es = true) (k : Nat) (hk : 4000 < k) : impl_nearPlaces.f k ns es = some (NP ns es) := by
  obtain ⟨_, _, hn, _⟩ := GOk_parts h
  unfold impl_nearPlaces.f
  rw [if_pos (by omega), if_pos (by omega)]
  rw [show (0 : Int) = ((0 : Nat) : Int) from rfl, Int.toNat_natCast, np_l0 h ns.length k 0 _ (by simp) (by omega) (fun j hj _ => by simp) (by omega)]
  simp [NP]

/-- The places of those near the node at a place. -/
def nb (ns : List S36) (es : List S56) (p : Nat) : List Nat := match ns[p]? with
  | some x => (nearL es x.f0 x.f1).map (ps ns)
  | none => []
theorem nb_at {ns : List S36} (es : List S56) {p : Nat} (h : p < ns.length) : nb ns es p = (nearL es ns[p].f0 ns[p].f1).map (ps ns) := by
  unfold nb; rw [List.getElem?_eq_getElem h]
theorem nb_lt {ns : List S36} {es : List S56} (h : GOk ns es = true) : ∀ u, u < ns.length → ∀ o ∈ nb ns es u, o < ns.length := by
  intro u hu o ho
  rw [nb_at es hu] at ho
  obtain ⟨y, hy, rfl⟩ := List.mem_map.1 ho
  exact ps_lt (near_in h _ _ hy)
theorem GOk_SA {ns : List S36} {es : List S56} (h : GOk ns es = true) : SA ns := Asc_SA (GOk_parts h).1
theorem nb_sym {ns : List S36} {es : List S56} (h : GOk ns es = true) {u v : Nat} (hu : u < ns.length) (hv : v ∈ nb ns es u) : u ∈ nb ns es v := by
  have hvl := nb_lt h u hu v hv
  rw [nb_at es hu] at hv
  obtain ⟨y, hy, rfl⟩ := List.mem_map.1 hv
  have hyn := near_in h _ _ hy
  rw [nb_at es hvl, ps_get hyn]
  exact List.mem_map.2 ⟨ns[u], near_sym h hy, ps_at (GOk_SA h) hu⟩
theorem nb_len {ns : List S36} {es : List S56} (h : GOk ns es = true) (u : Nat) : (nb ns es u).length ≤ 56 := by
  unfold nb
  cases ns[u]? with
  | none => simp
  | some x =>
    have := nearL_len es x.f0 x.f1
    have := (GOk_parts h).2.2.2
    simp only [List.length_map]; omega
def castL (m : List Nat) : List Int := m.map fun x : Nat => (x : Int)
theorem castL_len (m : List Nat) : (castL m).length = m.length := by simp [castL]
theorem castL_app (m : List Nat) (o : Nat) : castL m ++ [(o : Int)] = castL (m ++ [o]) := by simp [castL]
theorem rd_cast {m : List Nat} {j : Nat} (h : j < m.length) : rd (castL m) (j : Int) = (m[j] : Int) := by
  unfold rd castL
  rw [Int.toNat_natCast, List.getD_eq_getElem?_getD, List.getElem?_map, List.getElem?_eq_getElem h]; rfl
theorem NP_len (ns : List S36) (es : List S56) : (NP ns es).length = ns.length := by simp [NP]
theorem NP_at {ns : List S36} (es : List S56) {p : Nat} (h : p < ns.length) : rd_L9 (NP ns es) (p : Int) = castL (nb ns es p) := by
  rw [rdL_at (by rw [NP_len]; exact h), nb_at es h]
  simp [NP, nbz, castL]

/-! Going on from one place to those near it, till none is new. -/
/-- The places near one, one behind the other: a new one is v steps away. -/
def bIn (v : Int) : List Nat → List Int → List Nat → List Int × List Nat
  | [], d, m => (d, m)
  | o :: os, d, m => if rd d (o : Int) < 0 then bIn v os (d.set o v) (m ++ [o]) else bIn v os d m
def bOut (nb : Nat → List Nat) : Nat → List Int → List Nat → Nat → List Int × List Nat
  | 0, d, m, _ => (d, m)
  | f + 1, d, m, i => if h : i < m.length then bOut nb f (bIn (rd d (m[i] : Int) + 1) (nb m[i]) d m).1 (bIn (rd d (m[i] : Int) + 1) (nb m[i]) d m).2 (i + 1) else (d, m)
inductive Reach (nb : Nat → List Nat) (s : Nat) : Nat → Prop where
  | refl : Reach nb s s
  | step {u v : Nat} : Reach nb s u → v ∈ nb u → Reach nb s v
theorem rd_set {d : List Int} {o x : Nat} {v : Int} (h : o < d.length) : rd (d.set o v) (x : Int) = if x = o then v else rd d (x : Int) := by
  unfold rd
  rw [Int.toNat_natCast, List.getD_eq_getElem?_getD, List.getElem?_set]
  by_cases e : o = x
  · subst e; rw [if_pos rfl, if_pos h, if_pos rfl]; rfl
  · rw [if_neg e, if_neg (fun q => e q.symm), ← List.getD_eq_getElem?_getD]
theorem nodup_le : ∀ (n : Nat) (m : List Nat), m.Nodup → (∀ x ∈ m, x < n) → m.length ≤ n
  | 0, m, _, h => by
    cases m with
    | nil => simp
    | cons x t => have := h x (by simp); omega
  | n + 1, m, hd, h => by
    have h1 := nodup_le n (m.erase n) (hd.erase n) (fun x hx => by
      have h2 := (List.Nodup.mem_erase_iff hd).1 hx
      have := h x h2.2
      have := h2.1
      omega)
    have h3 := List.length_erase (l := m) (a := n)
    split at h3 <;> omega
structure BI (n : Nat) (nb : Nat → List Nat) (s : Nat) (B : Int) (d : List Int) (m : List Nat) : Prop where
  len : d.length = n
  lt : ∀ x ∈ m, x < n
  nd : m.Nodup
  iff : ∀ x, x < n → (0 ≤ rd d (x : Int) ↔ x ∈ m)
  s0 : s < n ∧ rd d (s : Int) = 0
  z : ∀ x, x < n → rd d (x : Int) = 0 → x = s
  p : ∀ x, x < n → 0 < rd d (x : Int) → ∃ u, u < n ∧ x ∈ nb u ∧ rd d (u : Int) = rd d (x : Int) - 1
  r : ∀ x ∈ m, Reach nb s x
  b : ∀ x, x < n → -1 ≤ rd d (x : Int) ∧ rd d (x : Int) ≤ B
theorem BI.step {n : Nat} {nb : Nat → List Nat} {s : Nat} {B : Int} {d : List Int} {m : List Nat} (h : BI n nb s B d m) {o c : Nat} (ho : o < n) (hn : rd d (o : Int) < 0) (hc : c ∈ m) (hoc : o ∈ nb c) (hv : rd d (c : Int) + 1 ≤ B) :
    BI n nb s B (d.set o (rd d (c : Int) + 1)) (m ++ [o]) := by
  have hl : o < d.length := by rw [h.len]; exact ho
  have hc0 : 0 ≤ rd d (c : Int) := (h.iff c (h.lt c hc)).2 hc
  have hom : o ∉ m := fun q => by have := (h.iff o ho).2 q; omega
  have hco : c ≠ o := fun e => hom (e ▸ hc)
  refine ⟨by simpa using h.len, ?_, ?_, ?_, ⟨h.s0.1, ?_⟩, ?_, ?_, ?_, ?_⟩
  · intro x hx
    rcases List.mem_append.1 hx with hx | hx
    · exact h.lt x hx
    · rw [List.mem_singleton.1 hx]; exact ho
  · rw [List.nodup_append]
    refine ⟨h.nd, by simp, ?_⟩
    intro a ha b hb
    rw [List.mem_singleton.1 hb]
    exact fun e => hom (e ▸ ha)
  · intro x hx
    rw [rd_set hl, List.mem_append, List.mem_singleton]
    by_cases e : x = o
    · rw [if_pos e]; exact ⟨fun _ => .inr e, fun _ => by omega⟩
    · rw [if_neg e, h.iff x hx]; exact ⟨.inl, fun q => q.elim id (fun q => absurd q e)⟩
  · rw [rd_set hl, if_neg]
    · exact h.s0.2
    · intro e; have := h.s0.2; rw [e] at this; omega
  · intro x hx
    rw [rd_set hl]
    by_cases e : x = o
    · rw [if_pos e]; intro q; omega
    · rw [if_neg e]; exact h.z x hx
  · intro x hx
    rw [rd_set hl]
    by_cases e : x = o
    · rw [if_pos e]; intro _
      refine ⟨c, h.lt c hc, e ▸ hoc, ?_⟩
      rw [rd_set hl, if_neg hco]; omega
    · rw [if_neg e]
      intro q
      obtain ⟨u, u1, u2, u3⟩ := h.p x hx q
      refine ⟨u, u1, u2, ?_⟩
      rw [rd_set hl, if_neg]
      · exact u3
      · intro e'; rw [e'] at u3; omega
  · intro x hx
    rcases List.mem_append.1 hx with hx | hx
    · exact h.r x hx
    · rw [List.mem_singleton.1 hx]; exact .step (h.r c hc) hoc
  · intro x hx
    rw [rd_set hl]
    by_cases e : x = o
    · rw [if_pos e]; omega
    · rw [if_neg e]; exact h.b x hx
theorem bIn_BI {n : Nat} {nb : Nat → List Nat} {s : Nat} {B : Int} {c : Nat} : ∀ (os : List Nat) (d : List Int) (m : List Nat), BI n nb s B d m → c ∈ m → rd d (c : Int) + 1 ≤ B → (∀ o ∈ os, o < n ∧ o ∈ nb c) →
    BI n nb s B (bIn (rd d (c : Int) + 1) os d m).1 (bIn (rd d (c : Int) + 1) os d m).2 ∧ (∃ t, (bIn (rd d (c : Int) + 1) os d m).2 = m ++ t) ∧ (∀ o ∈ os, o ∈ (bIn (rd d (c : Int) + 1) os d m).2)
  | [], d, m, h, _, _, _ => ⟨h, ⟨[], by simp [bIn]⟩, by simp⟩
  | o :: os, d, m, h, hc, hv, ho => by
    obtain ⟨o1, o2⟩ := ho o (by simp)
    have ho' : ∀ q ∈ os, q < n ∧ q ∈ nb c := fun q hq => ho q (List.mem_cons_of_mem _ hq)
    unfold bIn
    by_cases c1 : rd d (o : Int) < 0
    · rw [if_pos c1]
      have hom : o ∉ m := fun q => by have := (h.iff o o1).2 q; omega
      have hco : c ≠ o := fun e => hom (e ▸ hc)
      have h2 := h.step o1 c1 hc o2 hv
      have e : rd (d.set o (rd d (c : Int) + 1)) (c : Int) = rd d (c : Int) := by rw [rd_set (by rw [h.len]; exact o1), if_neg hco]
      have ih := bIn_BI os _ _ h2 (List.mem_append_left _ hc) (by rw [e]; exact hv) ho'
      rw [e] at ih
      obtain ⟨i1, ⟨t, i2⟩, i3⟩ := ih
      refine ⟨i1, ⟨[o] ++ t, by rw [i2, List.append_assoc]⟩, fun q hq => ?_⟩
      rcases List.mem_cons.1 hq with rfl | hq
      · rw [i2]; simp
      · exact i3 q hq
    · rw [if_neg c1]
      obtain ⟨i1, ⟨t, i2⟩, i3⟩ := bIn_BI os d m h hc hv ho'
      refine ⟨i1, ⟨t, i2⟩, fun q hq => ?_⟩
      rcases List.mem_cons.1 hq with rfl | hq
      · rw [i2]; exact List.mem_append_left _ ((h.iff q o1).1 (by omega))
      · exact i3 q hq
theorem BI.up {n : Nat} {nb : Nat → List Nat} {s : Nat} {B B' : Int} {d : List Int} {m : List Nat} (h : BI n nb s B d m) (hB : B ≤ B') : BI n nb s B' d m :=
  ⟨h.len, h.lt, h.nd, h.iff, h.s0, h.z, h.p, h.r, fun x hx => ⟨(h.b x hx).1, Int.le_trans (h.b x hx).2 hB⟩⟩
theorem BI.size {n : Nat} {nb : Nat → List Nat} {s : Nat} {B : Int} {d : List Int} {m : List Nat} (h : BI n nb s B d m) : m.length ≤ n := nodup_le n m h.nd h.lt
theorem bOut_BI {n : Nat} {nb : Nat → List Nat} {s : Nat} (hnb : ∀ u, u < n → ∀ o ∈ nb u, o < n) : ∀ (f : Nat) (d : List Int) (m : List Nat) (i : Nat), BI n nb s i d m → i ≤ m.length → n ≤ i + f → (∀ j (hj : j < m.length), j < i → ∀ o ∈ nb m[j], o ∈ m) →
    BI n nb s n (bOut nb f d m i).1 (bOut nb f d m i).2 ∧ ∀ u ∈ (bOut nb f d m i).2, ∀ o ∈ nb u, o ∈ (bOut nb f d m i).2
  | 0, d, m, i, h, hi, hf, hcl => by
    have := h.size
    refine ⟨h.up (by omega), fun u hu o ho => ?_⟩
    obtain ⟨j, hj, rfl⟩ := List.mem_iff_getElem.1 hu
    have hj' : j < m.length := hj
    exact hcl j hj' (by omega) o ho
  | f + 1, d, m, i, h, hi, hf, hcl => by
    unfold bOut
    by_cases c : i < m.length
    · rw [dif_pos c]
      have hm : m[i] ∈ m := List.getElem_mem c
      have hb := (h.b m[i] (h.lt _ hm)).2
      obtain ⟨i1, ⟨t, i2⟩, i3⟩ := bIn_BI (c := m[i]) (nb m[i]) d m (h.up (B' := ((i + 1 : Nat) : Int)) (by omega)) hm (by omega) (fun o ho => ⟨hnb _ (h.lt _ hm) o ho, ho⟩)
      refine bOut_BI hnb f _ _ (i + 1) i1 (by rw [i2]; simp; omega) (by omega) (fun j hj hji o ho => ?_)
      have hj' : j < m.length := by omega
      have e : (bIn (rd d (m[i] : Int) + 1) (nb m[i]) d m).2[j] = m[j] := by
        simp only [i2]
        exact List.getElem_append_left hj'
      rw [e] at ho
      rcases Nat.lt_or_eq_of_le (Nat.lt_succ_iff.1 hji) with q | q
      · rw [i2]; exact List.mem_append_left _ (hcl j hj' q o ho)
      · subst q; exact i3 o ho
    · rw [dif_neg c]
      have := h.size
      refine ⟨h.up (by omega), fun u hu o ho => ?_⟩
      obtain ⟨j, hj, rfl⟩ := List.mem_iff_getElem.1 hu
      have hj' : j < m.length := hj
      exact hcl j hj' (by omega) o ho
/-- From s on. -/
def bfs (n : Nat) (nb : Nat → List Nat) (s : Nat) : List Int × List Nat := bOut nb n ((List.replicate n (-1)).set s 0) [s] 0
theorem bfs_0 {n : Nat} (nb : Nat → List Nat) {s : Nat} (hs : s < n) : BI n nb s 0 ((List.replicate n (-1)).set s 0) [s] := by
  have hl : s < (List.replicate n (-1 : Int)).length := by simpa using hs
  have r0 : ∀ x, x < n → rd (List.replicate n (-1 : Int)) (x : Int) = -1 := fun x hx => by
    unfold rd; rw [Int.toNat_natCast, List.getD_eq_getElem?_getD, List.getElem?_replicate, if_pos hx]; rfl
  refine ⟨by simp, by simp; exact hs, by simp, ?_, ⟨hs, ?_⟩, ?_, ?_, ?_, ?_⟩
  · intro x hx
    rw [rd_set hl, List.mem_singleton]
    by_cases e : x = s
    · simp [e]
    · rw [if_neg e, r0 x hx]; simp [e]
  · rw [rd_set hl, if_pos rfl]
  · intro x hx
    rw [rd_set hl]
    by_cases e : x = s
    · intro _; exact e
    · rw [if_neg e, r0 x hx]; intro q; omega
  · intro x hx
    rw [rd_set hl]
    by_cases e : x = s
    · rw [if_pos e]; intro q; omega
    · rw [if_neg e, r0 x hx]; intro q; omega
  · intro x hx
    rw [List.mem_singleton.1 hx]; exact .refl
  · intro x hx
    rw [rd_set hl]
    by_cases e : x = s
    · rw [if_pos e]; omega
    · rw [if_neg e, r0 x hx]; omega
theorem bfs_ok {n : Nat} {nb : Nat → List Nat} (hnb : ∀ u, u < n → ∀ o ∈ nb u, o < n) {s : Nat} (hs : s < n) : BI n nb s n (bfs n nb s).1 (bfs n nb s).2 ∧ ∀ u ∈ (bfs n nb s).2, ∀ o ∈ nb u, o ∈ (bfs n nb s).2 :=
  bOut_BI hnb n _ _ 0 (bfs_0 nb hs) (by simp) (by omega) (fun j hj h => by omega)

theorem st_l2 {ns : List S36} {es : List S56} (h : GOk ns es = true) (R : Option (List Int × List Int)) (K i c : Nat) (hc : c < ns.length) :
    ∀ (d k j : Nat) (D : List Int) (M : List Nat), D.length = ns.length → j + d = (nb ns es c).length → M.length + d ≤ 1000 → 0 ≤ rd D (c : Int) → rd D (c : Int) ≤ 1000 → K + d < k →
    (∀ q, K ≤ q → impl_stepsFrom.l1 q (NP ns es) (bIn (rd D (c : Int) + 1) ((nb ns es c).drop j) D M).1 (castL (bIn (rd D (c : Int) + 1) ((nb ns es c).drop j) D M).2) ((i + 1 : Nat) : Int) = R) → i ≤ 1000 →
    impl_stepsFrom.l2 k (NP ns es) D (castL M) (i : Int) (c : Int) (castL (nb ns es c)) (((castL (nb ns es c)).length : Nat) : Int) (j : Int) = R := by
  intro d
  induction d with
  | zero =>
    intro k j D M hD hd hM h0 h1 hk hR hi
    obtain ⟨k, rfl⟩ : ∃ q, k = q + 1 := ⟨k - 1, by omega⟩
    rw [impl_stepsFrom.l2]
    rw [castL_len, if_neg (by omega), w1n i (by omega)]
    rw [List.drop_of_length_le (by omega)] at hR
    exact hR k (by omega)
  | succ d ih =>
    intro k j D M hD hd hM h0 h1 hk hR hi
    obtain ⟨k, rfl⟩ : ∃ q, k = q + 1 := ⟨k - 1, by omega⟩
    have hj : j < (nb ns es c).length := by omega
    have hlen := nb_len h c
    have ho := nb_lt h c hc _ (List.getElem_mem hj)
    rw [impl_stepsFrom.l2]
    rw [castL_len, if_pos (by omega), if_pos (by omega), if_pos (by omega), rd_cast hj, if_pos (by omega), if_pos (by omega)]
    rw [List.drop_eq_getElem_cons hj] at hR
    unfold bIn at hR
    have nx := ih k (j + 1)
    rw [castL_len] at nx
    by_cases c1 : rd D ((nb ns es c)[j] : Int) < 0
    · rw [if_pos c1] at hR ⊢
      rw [if_pos (by omega), if_pos (by omega), if_pos (by rw [castL_len]; omega), w1n j (by omega), w64 (x := rd D (c : Int) + 1) (by omega), Int.toNat_natCast, castL_app]
      have hco : c ≠ (nb ns es c)[j] := fun e => by rw [← e] at c1; omega
      have e : rd (D.set (nb ns es c)[j] (rd D (c : Int) + 1)) (c : Int) = rd D (c : Int) := by rw [rd_set (by omega), if_neg hco]
      refine nx _ _ (by simpa using hD) (by omega) (by simp; omega) (by rw [e]; exact h0) (by rw [e]; exact h1) (by omega) (fun q hq => ?_) hi
      rw [e]; exact hR q hq
    · rw [if_neg c1] at hR ⊢
      rw [w1n j (by omega)]
      exact nx D M hD (by omega) (by omega) h0 h1 (by omega) hR hi
theorem st_l1 {ns : List S36} {es : List S56} (h : GOk ns es = true) (s : Nat) : ∀ (f k : Nat) (D : List Int) (M : List Nat) (i : Nat), BI ns.length (nb ns es) s i D M → i ≤ M.length → ns.length ≤ i + f → 200 + 60 * f < k →
    impl_stepsFrom.l1 k (NP ns es) D (castL M) (i : Int) = some ((bOut (nb ns es) f D M i).1, castL (bOut (nb ns es) f D M i).2) := by
  obtain ⟨_, _, hn, _⟩ := GOk_parts h
  intro f
  induction f with
  | zero =>
    intro k D M i hB hi hf hk
    obtain ⟨k, rfl⟩ : ∃ q, k = q + 1 := ⟨k - 1, by omega⟩
    have := hB.size
    rw [impl_stepsFrom.l1]
    rw [castL_len, if_neg (by omega)]
    rfl
  | succ f ih =>
    intro k D M i hB hi hf hk
    obtain ⟨k, rfl⟩ : ∃ q, k = q + 1 := ⟨k - 1, by omega⟩
    have hsz := hB.size
    rw [impl_stepsFrom.l1]
    unfold bOut
    by_cases c : i < M.length
    · have hm : M[i] ∈ M := List.getElem_mem c
      have hml := hB.lt _ hm
      have hb := hB.b _ hml
      have h0 := (hB.iff _ hml).2 hm
      rw [castL_len, if_pos (by omega), if_pos (by omega), rd_cast c, if_pos (by omega), NP_len, if_pos (by omega), NP_at es hml, dif_pos c]
      have hl := nb_len h M[i]
      obtain ⟨i1, ⟨t, i2⟩, i3⟩ := bIn_BI (c := M[i]) (nb ns es M[i]) D M (hB.up (B' := ((i + 1 : Nat) : Int)) (by omega)) hm (by omega) (fun o ho => ⟨nb_lt h _ hml o ho, ho⟩)
      refine st_l2 h _ (200 + 60 * f + 1) i M[i] hml (nb ns es M[i]).length k 0 D M hB.len (by omega) (by omega) h0 (by omega) (by omega) (fun q hq => ?_) (by omega)
      rw [List.drop_zero]
      exact ih q _ _ (i + 1) i1 (by rw [i2]; simp; omega) (by omega) (by omega)
    · rw [castL_len, if_neg (by omega), dif_neg c]
theorem st_l0 {ns : List S36} {es : List S56} (s : Nat) (hs : s < ns.length) (hn : ns.length ≤ 40) (R : Option (List Int × List Int)) (K : Nat)
    (hR : ∀ q, K ≤ q → impl_stepsFrom.l1 q (NP ns es) ((List.replicate ns.length (-1)).set s 0) [(s : Int)] 0 = R) : ∀ (d k i : Nat) (X : List Int), X.length = ns.length → i + d = ns.length → X.take i = List.replicate i (-1) → K + d < k →
    impl_stepsFrom.l0 k (NP ns es) (s : Int) X (ns.length : Int) (i : Int) = R := by
  intro d
  induction d with
  | zero =>
    intro k i X hX hd ht hk
    obtain ⟨k, rfl⟩ : ∃ q, k = q + 1 := ⟨k - 1, by omega⟩
    rw [impl_stepsFrom.l0]
    rw [if_neg (by omega), if_pos (by omega), if_pos (by omega), Int.toNat_natCast]
    rw [List.take_of_length_le (by omega)] at ht
    rw [ht, show i = ns.length by omega]
    exact hR k (by omega)
  | succ d ih =>
    intro k i X hX hd ht hk
    obtain ⟨k, rfl⟩ : ∃ q, k = q + 1 := ⟨k - 1, by omega⟩
    rw [impl_stepsFrom.l0]
    rw [if_pos (by omega), if_pos (by omega), if_pos (by omega), w1n i (by omega), Int.toNat_natCast]
    refine ih k (i + 1) _ (by simpa using hX) (by omega) ?_ (by omega)
    rw [List.take_succ_eq_append_getElem (by simp; omega), List.take_set_of_le (Nat.le_refl _), List.getElem_set_self, ht, List.replicate_succ']
theorem steps_ok {ns : List S36} {es : List S56} (h : GOk ns es = true) {s : Nat} (hs : s < ns.length) (k : Nat) (hk : 4000 < k) :
    impl_stepsFrom.f k (NP ns es) (s : Int) = some ((bfs ns.length (nb ns es) s).1, castL (bfs ns.length (nb ns es) s).2) := by
  obtain ⟨_, _, hn, _⟩ := GOk_parts h
  unfold impl_stepsFrom.f
  rw [NP_len, if_pos (by omega), if_pos (by omega), Int.toNat_natCast]
  simp only [Option.bind_some, List.length_replicate]
  refine st_l0 s hs hn _ 3000 (fun q hq => ?_) ns.length k 0 _ (by simp) (by omega) (by simp) (by omega)
  exact st_l1 h s ns.length q _ [s] 0 (bfs_0 _ hs) (by simp) (by omega) (by omega)
/-- The nodes at places. -/
def nodesOf (ns : List S36) (m : List Nat) : List S36 := m.map fun p => ns.getD p ⟨0, 0⟩
theorem nodesOf_len (ns : List S36) (m : List Nat) : (nodesOf ns m).length = m.length := by simp [nodesOf]
theorem nodesOf_at {ns : List S36} {m : List Nat} {j : Nat} (hj : j < m.length) (h : m[j] < ns.length) : rd_T36 (nodesOf ns m) (j : Int) = ns[m[j]] := by
  rw [rdT_at (by rw [nodesOf_len]; exact hj)]
  simp [nodesOf, List.getD_eq_getElem?_getD, h]
theorem nodesOf_app {ns : List S36} (m : List Nat) {y : S36} (hy : y ∈ ns) : nodesOf ns m ++ [(⟨y.f0, y.f1⟩ : S36)] = nodesOf ns (m ++ [ps ns y]) := by
  unfold nodesOf
  rw [List.map_append, List.map_singleton, List.getD_eq_getElem?_getD, List.getElem?_eq_getElem (ps_lt hy), ps_get hy]; rfl
theorem sd_l2 {ns : List S36} {es : List S56} (h : GOk ns es = true) (R : Option (List Int)) (K i c : Nat) (hc : c < ns.length) (hK : 100 < K) (dv : Int) (h0 : 0 ≤ dv) (h1 : dv ≤ 1000) :
    ∀ (d k j : Nat) (D : List Int) (M : List Nat), D.length = ns.length → j + d = (nearL es ns[c].f0 ns[c].f1).length → M.length + d ≤ 1000 → K + d < k →
    (∀ q, K ≤ q → spec_l3Dist.l1 q (bIn (dv + 1) ((nb ns es c).drop j) D M).1 (nodesOf ns (bIn (dv + 1) ((nb ns es c).drop j) D M).2) ((i + 1 : Nat) : Int) ns es = R) → i ≤ 1000 →
    spec_l3Dist.l2 k D (nodesOf ns M) (i : Int) (nearL es ns[c].f0 ns[c].f1) dv (j : Int) ns es = R := by
  obtain ⟨_, _, hn, hm⟩ := GOk_parts h
  intro d
  induction d with
  | zero =>
    intro k j D M hD hd hM hk hR hi
    obtain ⟨k, rfl⟩ : ∃ q, k = q + 1 := ⟨k - 1, by omega⟩
    rw [spec_l3Dist.l2]
    rw [if_neg (by omega), w1n i (by omega)]
    rw [List.drop_of_length_le (by rw [nb_at es hc, List.length_map]; omega)] at hR
    exact hR k (by omega)
  | succ d ih =>
    intro k j D M hD hd hM hk hR hi
    obtain ⟨k, rfl⟩ : ∃ q, k = q + 1 := ⟨k - 1, by omega⟩
    have hj : j < (nearL es ns[c].f0 ns[c].f1).length := by omega
    have hy := near_in h _ _ (List.getElem_mem hj)
    have hpl := ps_lt hy
    have hlen := nearL_len es ns[c].f0 ns[c].f1
    rw [spec_l3Dist.l2]
    rw [if_pos (by omega), if_pos (by omega), rdT_at hj, l2At_ok ns es (by omega) _ k (by omega), pz_in hy]
    simp only [Option.bind_some]
    rw [if_pos (by omega), if_pos (by omega)]
    have hj' : j < (nb ns es c).length := by rw [nb_at es hc, List.length_map]; exact hj
    have e : (nb ns es c)[j] = ps ns (nearL es ns[c].f0 ns[c].f1)[j] := by simp [nb_at es hc]
    rw [List.drop_eq_getElem_cons hj', e] at hR
    unfold bIn at hR
    have nx := ih k (j + 1)
    by_cases c1 : rd D (ps ns (nearL es ns[c].f0 ns[c].f1)[j] : Int) < 0
    · rw [if_pos c1] at hR ⊢
      rw [nodesOf_len, if_pos (by omega), w1n j (by omega), w64 (x := dv + 1) (by omega), Int.toNat_natCast, nodesOf_app M hy]
      exact nx _ _ (by simpa using hD) (by omega) (by simp; omega) (by omega) hR hi
    · rw [if_neg c1] at hR ⊢
      rw [w1n j (by omega)]
      exact nx D M hD (by omega) (by omega) (by omega) hR hi
theorem sd_l1 {ns : List S36} {es : List S56} (h : GOk ns es = true) (s : Nat) : ∀ (f k : Nat) (D : List Int) (M : List Nat) (i : Nat), BI ns.length (nb ns es) s i D M → i ≤ M.length → ns.length ≤ i + f → 4000 + 60 * f < k →
    spec_l3Dist.l1 k D (nodesOf ns M) (i : Int) ns es = some (bOut (nb ns es) f D M i).1 := by
  obtain ⟨_, _, hn, _⟩ := GOk_parts h
  intro f
  induction f with
  | zero =>
    intro k D M i hB hi hf hk
    obtain ⟨k, rfl⟩ : ∃ q, k = q + 1 := ⟨k - 1, by omega⟩
    have := hB.size
    rw [spec_l3Dist.l1]
    rw [nodesOf_len, if_neg (by omega)]
    rfl
  | succ f ih =>
    intro k D M i hB hi hf hk
    obtain ⟨k, rfl⟩ : ∃ q, k = q + 1 := ⟨k - 1, by omega⟩
    have hsz := hB.size
    rw [spec_l3Dist.l1]
    unfold bOut
    by_cases c : i < M.length
    · have hm : M[i] ∈ M := List.getElem_mem c
      have hml := hB.lt _ hm
      have hb := hB.b _ hml
      have h0 := (hB.iff _ hml).2 hm
      have hlen := hB.len
      rw [nodesOf_len, if_pos (by omega), if_pos (by omega), nodesOf_at c hml, sl2Near ns es h _ _ k (by omega), l2At_ok ns es (by omega) _ k (by omega), pz_in (List.getElem_mem hml), ps_at (GOk_SA h) hml, dif_pos c]
      simp only [Option.bind_some]
      rw [if_pos (by omega), if_pos (by omega)]
      have hl := nb_len h M[i]
      have hl2 : (nb ns es M[i]).length = (nearL es ns[M[i]].f0 ns[M[i]].f1).length := by rw [nb_at es hml, List.length_map]
      obtain ⟨i1, ⟨t, i2⟩, i3⟩ := bIn_BI (c := M[i]) (nb ns es M[i]) D M (hB.up (B' := ((i + 1 : Nat) : Int)) (by omega)) hm (by omega) (fun o ho => ⟨nb_lt h _ hml o ho, ho⟩)
      refine sd_l2 h _ (4000 + 60 * f + 1) i M[i] hml (by omega) _ h0 (by omega) (nearL es ns[M[i]].f0 ns[M[i]].f1).length k 0 D M hB.len (by omega) (by omega) (by omega) (fun q hq => ?_) (by omega)
      rw [List.drop_zero]
      exact ih q _ _ (i + 1) i1 (by rw [i2]; simp; omega) (by omega) (by omega)
    · rw [nodesOf_len, if_neg (by omega), dif_neg c]
theorem sd_l0 {ns : List S36} {es : List S56} (hn : ns.length ≤ 40) (x : S36) (hx : x ∈ ns) (R : Option (List Int)) (K : Nat) (hK : 100 < K)
    (hR : ∀ q, K ≤ q → spec_l3Dist.l1 q ((List.replicate ns.length (-1)).set (ps ns x) 0) [(⟨x.f0, x.f1⟩ : S36)] 0 ns es = R) : ∀ (d k i : Nat), i + d = ns.length → K + d < k →
    spec_l3Dist.l0 k (List.replicate i (-1)) (i : Int) ns es x.f0 x.f1 = R := by
  intro d
  induction d with
  | zero =>
    intro k i hd hk
    obtain ⟨k, rfl⟩ : ∃ q, k = q + 1 := ⟨k - 1, by omega⟩
    have := ps_lt hx
    rw [spec_l3Dist.l0]
    rw [if_neg (by omega), l2At_ok ns es (by omega) _ k (by omega), pz_in hx]
    simp only [Option.bind_some, List.length_replicate]
    rw [if_pos (by omega), if_pos (by omega), Int.toNat_natCast, show i = ns.length by omega]
    exact hR k (by omega)
  | succ d ih =>
    intro k i hd hk
    obtain ⟨k, rfl⟩ : ∃ q, k = q + 1 := ⟨k - 1, by omega⟩
    rw [spec_l3Dist.l0]
    rw [if_pos (by omega), List.length_replicate, if_pos (by omega), w1n i (by omega), ← List.replicate_succ']
    exact ih k (i + 1) (by omega) (by omega)
theorem dist_ok {ns : List S36} {es : List S56} (h : GOk ns es = true) {x : S36} (hx : x ∈ ns) (k : Nat) (hk : 8000 < k) :
    spec_l3Dist.f k ns es x.f0 x.f1 = some (bfs ns.length (nb ns es) (ps ns x)).1 := by
  obtain ⟨_, _, hn, _⟩ := GOk_parts h
  unfold spec_l3Dist.f
  refine sd_l0 hn x hx _ 7000 (by omega) (fun q hq => ?_) ns.length k 0 (by omega) (by omega)
  have e : [(⟨x.f0, x.f1⟩ : S36)] = nodesOf ns [ps ns x] := nodesOf_app [] hx
  rw [e]
  exact sd_l1 h (ps ns x) ns.length q _ [ps ns x] 0 (bfs_0 _ (ps_lt hx)) (by simp) (by omega) (by omega)

theorem markN_l0 (n : Nat) (a : Int) (ha : 0 ≤ a) (hm : a + 2 * n ≤ 100000000) : ∀ (d k : Nat) (ys : List S36) (i : Nat), ys.length = n → i + d = n → (∀ j, j < i → ys[j]? = some ⟨a + 2 * (j : Int), a + 2 * (j : Int) + 1⟩) → d < k →
    ∃ zs, laws_markNodeS.l0 k ys (a + 2 * i) i = some (a + 2 * n, zs) ∧ zs.length = n ∧ ∀ j : Nat, j < n → zs[j]? = some ⟨a + 2 * (j : Int), a + 2 * (j : Int) + 1⟩ := by
  intro d
  induction d with
  | zero =>
    intro k ys i hl hd hy hk
    obtain ⟨k, rfl⟩ : ∃ m, k = m + 1 := ⟨k - 1, by omega⟩
    simp only [laws_markNodeS.l0]
    rw [if_neg (by omega)]
    exact ⟨ys, by rw [show i = n by omega], hl, fun j hj => hy j (by omega)⟩
  | succ d ih =>
    intro k ys i hl hd hy hk
    obtain ⟨k, rfl⟩ : ∃ m, k = m + 1 := ⟨k - 1, by omega⟩
    simp only [laws_markNodeS.l0]
    rw [if_pos (by omega), if_pos (by omega)]
    simp only [Option.bind_some, Int.toNat_natCast]
    have e1 : (rd_T36 (ys.set i ⟨a + 2 * (i : Int), (rd_T36 ys i).f1⟩) i).f0 = a + 2 * (i : Int) := by
      unfold rd_T36
      rw [Int.toNat_natCast, List.getD_eq_getElem?_getD, List.getElem?_set_self (by omega)]; rfl
    rw [e1, List.set_set, w64 (x := a + 2 * (i : Int) + 1) (by omega), w64 (x := a + 2 * (i : Int) + 1 + 1) (by omega), w64 (x := (i : Int) + 1) (by omega)]
    have := ih k (ys.set i ⟨a + 2 * (i : Int), a + 2 * (i : Int) + 1⟩) (i + 1) (by simpa using hl) (by omega) (fun j hj => by
      by_cases e : j = i
      · subst e; rw [List.getElem?_set_self (by omega)]
      · rw [List.getElem?_set_ne (by omega)]; exact hy j (by omega)) (by omega)
    rw [show a + 2 * ((i + 1 : Nat) : Int) = a + 2 * (i : Int) + 1 + 1 by omega, show ((i + 1 : Nat) : Int) = (i : Int) + 1 by omega] at this
    exact this

/-- The marks of an edge. -/
def mE (a : Int) : S56 := ⟨a, ⟨a + 1, a + 2⟩, ⟨a + 3, a + 4⟩⟩
theorem rdE_set (ys : List S56) (i : Nat) (x : S56) (h : i < ys.length) : rd_T56 (ys.set i x) (i : Int) = x := by
  unfold rd_T56
  rw [Int.toNat_natCast, List.getD_eq_getElem?_getD, List.getElem?_set_self h]; rfl
theorem markE_l0 (n : Nat) (a : Int) (ha : 0 ≤ a) (hm : a + 5 * n ≤ 100000000) : ∀ (d k : Nat) (ys : List S56) (i : Nat), ys.length = n → i + d = n → (∀ j, j < i → ys[j]? = some (mE (a + 5 * (j : Int)))) → d < k →
    ∃ zs, laws_markEdgeS.l0 k ys (a + 5 * i) i = some (a + 5 * n, zs) ∧ zs.length = n ∧ ∀ j : Nat, j < n → zs[j]? = some (mE (a + 5 * (j : Int))) := by
  intro d
  induction d with
  | zero =>
    intro k ys i hl hd hy hk
    obtain ⟨k, rfl⟩ : ∃ m, k = m + 1 := ⟨k - 1, by omega⟩
    simp only [laws_markEdgeS.l0]
    rw [if_neg (by omega)]
    exact ⟨ys, by rw [show i = n by omega], hl, fun j hj => hy j (by omega)⟩
  | succ d ih =>
    intro k ys i hl hd hy hk
    obtain ⟨k, rfl⟩ : ∃ m, k = m + 1 := ⟨k - 1, by omega⟩
    simp only [laws_markEdgeS.l0]
    rw [if_pos (by omega), if_pos (by omega)]
    simp only [Option.bind_some, Int.toNat_natCast, List.set_set, rdE_set ys i _ (by omega)]
    rw [w64 (x := a + 5 * (i : Int) + 1) (by omega), w64 (x := a + 5 * (i : Int) + 1 + 1) (by omega), w64 (x := a + 5 * (i : Int) + 1 + 1 + 1) (by omega), w64 (x := a + 5 * (i : Int) + 1 + 1 + 1 + 1) (by omega), w64 (x := a + 5 * (i : Int) + 1 + 1 + 1 + 1 + 1) (by omega), w64 (x := (i : Int) + 1) (by omega)]
    have := ih k (ys.set i (mE (a + 5 * (i : Int)))) (i + 1) (by simpa using hl) (by omega) (fun j hj => by
      by_cases e : j = i
      · subst e; rw [List.getElem?_set_self (by omega)]
      · rw [List.getElem?_set_ne (by omega)]; exact hy j (by omega)) (by omega)
    rw [show a + 5 * ((i + 1 : Nat) : Int) = a + 5 * (i : Int) + 1 + 1 + 1 + 1 + 1 by omega, show ((i + 1 : Nat) : Int) = (i : Int) + 1 by omega] at this
    have e : mE (a + 5 * (i : Int)) = ⟨a + 5 * (i : Int), ⟨a + 5 * (i : Int) + 1, a + 5 * (i : Int) + 1 + 1⟩, ⟨a + 5 * (i : Int) + 1 + 1 + 1, a + 5 * (i : Int) + 1 + 1 + 1 + 1⟩⟩ := by
      unfold mE; rw [show a + 5 * (i : Int) + 2 = a + 5 * (i : Int) + 1 + 1 by omega, show a + 5 * (i : Int) + 3 = a + 5 * (i : Int) + 1 + 1 + 1 by omega, show a + 5 * (i : Int) + 4 = a + 5 * (i : Int) + 1 + 1 + 1 + 1 by omega]
    rw [e] at this
    exact this

theorem markGraph_tot (ns : List S36) (es : List S56) (hn : ns.length ≤ 2097152) (hm : es.length ≤ 2097152) (k : Nat) (hk : ns.length + es.length < k) : ∃ e zs ys, laws_markGraph.f k ns es 1 = some (e, zs, ys) ∧ 0 ≤ e := by
  obtain ⟨zs, h1, h2, h3⟩ := markN_l0 ns.length 1 (by omega) (by omega) ns.length k ns 0 rfl (by omega) (fun j hj => by omega) (by omega)
  obtain ⟨ys, g1, g2, g3⟩ := markE_l0 es.length (1 + 2 * ns.length) (by omega) (by omega) es.length k es 0 rfl (by omega) (fun j hj => by omega) (by omega)
  refine ⟨1 + 2 * (ns.length : Int) + 5 * (es.length : Int), zs, ys, ?_, by omega⟩
  unfold laws_markGraph.f laws_markNodeS.f laws_markEdgeS.f
  simp at h1 g1
  rw [h1]; simp only [Option.bind_some]; rw [g1]; rfl

theorem heldN_l0 (zs : List S36) (a : Int) (ha : 0 ≤ a) (hm : a + 2 * zs.length ≤ 100000000) (hz : ∀ j : Nat, j < zs.length → zs[j]? = some ⟨a + 2 * (j : Int), a + 2 * (j : Int) + 1⟩) : ∀ (d k : Nat) (i : Nat), i + d = zs.length → d < k → laws_heldNodeS.l0 k zs (a + 2 * i) i = some (a + 2 * zs.length) := by
  intro d
  induction d with
  | zero =>
    intro k i hd hk
    obtain ⟨k, rfl⟩ : ∃ m, k = m + 1 := ⟨k - 1, by omega⟩
    simp only [laws_heldNodeS.l0]
    rw [if_neg (by omega), show i = zs.length by omega]
  | succ d ih =>
    intro k i hd hk
    obtain ⟨k, rfl⟩ : ∃ m, k = m + 1 := ⟨k - 1, by omega⟩
    simp only [laws_heldNodeS.l0]
    have er : rd_T36 zs (i : Int) = ⟨a + 2 * (i : Int), a + 2 * (i : Int) + 1⟩ := by unfold rd_T36; rw [Int.toNat_natCast, List.getD_eq_getElem?_getD, hz i (by omega)]; rfl
    rw [if_pos (by omega), if_pos (by omega), er, if_pos rfl, w64 (x := a + 2 * (i : Int) + 1) (by omega), if_pos rfl, w64 (x := a + 2 * (i : Int) + 1 + 1) (by omega), w64 (x := (i : Int) + 1) (by omega)]
    have := ih k (i + 1) (by omega) (by omega)
    rw [show a + 2 * ((i + 1 : Nat) : Int) = a + 2 * (i : Int) + 1 + 1 by omega, show ((i + 1 : Nat) : Int) = (i : Int) + 1 by omega] at this
    exact this

/-- What is laid as marks in a row of nodes is held. -/
theorem markNodeS_ok (ns : List S36) (hn : ns.length ≤ 2097152) (k : Nat) (hk : ns.length < k) : ∃ e zs, laws_markNodeS.f k ns 1 = some (e, zs) ∧ 0 ≤ e ∧ ∀ q, ns.length < q → laws_heldNodeS.f q zs 1 = some e := by
  obtain ⟨zs, h1, h2, h3⟩ := markN_l0 ns.length 1 (by omega) (by omega) ns.length k ns 0 rfl (by omega) (fun j hj => by omega) (by omega)
  refine ⟨1 + 2 * (ns.length : Int), zs, ?_, by omega, fun q hq => ?_⟩
  · unfold laws_markNodeS.f
    simpa using h1
  · have a1 := heldN_l0 zs 1 (by omega) (by omega) (fun j hj => h3 j (by omega)) zs.length q 0 (by omega) (by omega)
    unfold laws_heldNodeS.f
    rw [h2] at a1
    simpa using a1

/-- From a place to the first one near it that is one step less away, and so on. -/
def pth (N : Nat → List Nat) (D : List Int) : Nat → Nat → List Nat
  | 0, _ => []
  | e + 1, a => match (N a).find? (fun o : Nat => decide (rd D (o : Int) = (e : Int))) with
    | some o => o :: pth N D e o
    | none => []
theorem pth_len (N : Nat → List Nat) (D : List Int) : ∀ e a, (pth N D e a).length ≤ e
  | 0, _ => by simp [pth]
  | e + 1, a => by
    unfold pth
    split
    · have := pth_len N D e
      rename_i o _
      have := this o
      simp; omega
    · simp
theorem ip_l1 {ns : List S36} {es : List S56} (h : GOk ns es = true) (R : Option (List S36 × Bool)) (K a o : Nat) (s : Int) (ha : a < ns.length) (D : List Int) (hD : D.length = ns.length) (e : Nat) (he : rd D (a : Int) = ((e + 1 : Nat) : Int)) (he2 : e ≤ 1000) (P : List S36) (hP : P.length ≤ 1000) (ho : o < ns.length)
    (hR : ∀ q, K ≤ q → impl_WalkPath.l0 q (o : Int) s (NP ns es) D (P ++ [ns[o]]) ns es = R) :
    ∀ (d k j : Nat), j + d = (nb ns es a).length → ((nb ns es a).drop j).find? (fun o : Nat => decide (rd D (o : Int) = (e : Int))) = some o → K + d < k →
    impl_WalkPath.l1 k (a : Int) s (NP ns es) D P (castL (nb ns es a)) (((nb ns es a).length : Nat) : Int) (j : Int) ns es = R := by
  intro d
  induction d with
  | zero =>
    intro k j hd hf hk
    rw [List.drop_of_length_le (by omega)] at hf
    simp at hf
  | succ d ih =>
    intro k j hd hf hk
    obtain ⟨k, rfl⟩ : ∃ z, k = z + 1 := ⟨k - 1, by omega⟩
    have hj : j < (nb ns es a).length := by omega
    have hl := nb_len h a
    have hb := nb_lt h a ha _ (List.getElem_mem hj)
    rw [List.drop_eq_getElem_cons hj, List.find?_cons] at hf
    rw [impl_WalkPath.l1]
    rw [if_pos (by omega), if_pos (by omega), if_pos (by rw [castL_len]; omega), rd_cast hj, if_pos (by omega), if_pos (by omega), if_pos (by omega), if_pos (by omega), he, w1m e (by omega)]
    by_cases c : rd D ((nb ns es a)[j] : Int) = (e : Int)
    · rw [if_pos c, if_pos (by omega), if_pos (by omega), rdT_at hb]
      rw [decide_eq_true c] at hf
      have e2 : (nb ns es a)[j] = o := Option.some.inj hf
      simp only [e2]
      exact hR k (by omega)
    · rw [if_neg c, w1n j (by omega)]
      rw [decide_eq_false c] at hf
      exact ih k (j + 1) (by omega) hf (by omega)
/-- There is one that is a step less away. -/
theorem less {ns : List S36} {es : List S56} (h : GOk ns es = true) {s a e : Nat} {D : List Int} {M : List Nat} (hB : BI ns.length (nb ns es) s ns.length D M) (ha : a < ns.length) (he : rd D (a : Int) = ((e + 1 : Nat) : Int)) :
    ∃ o, (nb ns es a).find? (fun o : Nat => decide (rd D (o : Int) = (e : Int))) = some o ∧ o < ns.length ∧ rd D (o : Int) = (e : Int) := by
  obtain ⟨u, u1, u2, u3⟩ := hB.p a ha (by omega)
  have hu : u ∈ nb ns es a := nb_sym h u1 u2
  cases hf : (nb ns es a).find? (fun o : Nat => decide (rd D (o : Int) = (e : Int))) with
  | none =>
    have := List.find?_eq_none.1 hf u hu
    simp only [decide_eq_true_eq] at this
    omega
  | some o =>
    have h1 := List.find?_some hf
    have h2 := List.mem_of_find?_eq_some hf
    exact ⟨o, rfl, nb_lt h a ha o h2, by simpa using h1⟩
theorem ip_l0 {ns : List S36} {es : List S56} (h : GOk ns es = true) {s : Nat} {D : List Int} {M : List Nat} (hB : BI ns.length (nb ns es) s ns.length D M) : ∀ (e k a : Nat) (P : List S36), a < ns.length → rd D (a : Int) = (e : Int) → e ≤ 40 → P.length + e ≤ 900 → 1000 + 100 * e < k →
    impl_WalkPath.l0 k (a : Int) (s : Int) (NP ns es) D P ns es = some (P ++ nodesOf ns (pth (nb ns es) D e a), true) := by
  intro e
  induction e with
  | zero =>
    intro k a P ha he _ _ hk
    obtain ⟨k, rfl⟩ : ∃ z, k = z + 1 := ⟨k - 1, by omega⟩
    have := hB.z a ha he
    rw [impl_WalkPath.l0]
    rw [if_pos (by omega)]
    simp [pth, nodesOf]
  | succ e ih =>
    intro k a P ha he h1 h2 hk
    obtain ⟨k, rfl⟩ : ∃ z, k = z + 1 := ⟨k - 1, by omega⟩
    have hne : a ≠ s := fun q => by have := hB.s0.2; rw [← q, he] at this; omega
    obtain ⟨o, o1, o2, o3⟩ := less h hB ha he
    have hl := nb_len h a
    rw [impl_WalkPath.l0]
    rw [if_neg (by omega), if_pos (by omega), NP_len, if_pos (by omega), NP_at es ha, castL_len]
    unfold pth
    rw [o1]
    simp only []
    refine ip_l1 h _ (1000 + 100 * e + 1) a o s ha D hB.len e he (by omega) P (by omega) o2 (fun q hq => ?_) (nb ns es a).length k 0 (by omega) (by rw [List.drop_zero]; exact o1) (by omega)
    rw [ih q o (P ++ [ns[o]]) o2 o3 (by omega) (by simp; omega) (by omega), List.append_assoc]
    congr 3
    simp [nodesOf, List.getD_eq_getElem?_getD, o2]
theorem sp_l1 {ns : List S36} {es : List S56} (h : GOk ns es = true) (R : Option (List S36 × Bool)) (K a o : Nat) (ha : a < ns.length) (hK : 100 < K) (D : List Int) (hD : D.length = ns.length) (e : Nat) (he2 : e ≤ 1000) (P : List S36) (hP : P.length ≤ 1000) (ho : o < ns.length)
    (hR : ∀ q, K ≤ q → spec_WalkPath.l0 q D (e : Int) (P ++ [ns[o]]) ns es = R) :
    ∀ (d k j : Nat), j + d = (nearL es ns[a].f0 ns[a].f1).length → ((nb ns es a).drop j).find? (fun o : Nat => decide (rd D (o : Int) = (e : Int))) = some o → K + d < k →
    spec_WalkPath.l1 k D ((e + 1 : Nat) : Int) P (nearL es ns[a].f0 ns[a].f1) (j : Int) ns es = R := by
  obtain ⟨_, _, hn, hm⟩ := GOk_parts h
  have hnl : (nb ns es a).length = (nearL es ns[a].f0 ns[a].f1).length := by rw [nb_at es ha, List.length_map]
  intro d
  induction d with
  | zero =>
    intro k j hd hf hk
    rw [List.drop_of_length_le (by omega)] at hf
    simp at hf
  | succ d ih =>
    intro k j hd hf hk
    obtain ⟨k, rfl⟩ : ∃ z, k = z + 1 := ⟨k - 1, by omega⟩
    have hj : j < (nearL es ns[a].f0 ns[a].f1).length := by omega
    have hl := nb_len h a
    have hy := near_in h _ _ (List.getElem_mem hj)
    have hpl := ps_lt hy
    have e1 : (nb ns es a)[j]'(by omega) = ps ns (nearL es ns[a].f0 ns[a].f1)[j] := by simp [nb_at es ha]
    rw [List.drop_eq_getElem_cons (show j < (nb ns es a).length by omega), List.find?_cons, e1] at hf
    rw [spec_WalkPath.l1]
    rw [if_pos (by omega), if_pos (by omega), rdT_at hj, l2At_ok ns es (by omega) _ k (by omega), pz_in hy]
    simp only [Option.bind_some]
    rw [if_pos (by omega), if_pos (by omega), w1m e (by omega)]
    by_cases c : rd D (ps ns (nearL es ns[a].f0 ns[a].f1)[j] : Int) = (e : Int)
    · rw [if_pos c, if_pos (by omega)]
      rw [decide_eq_true c] at hf
      have e2 : ps ns (nearL es ns[a].f0 ns[a].f1)[j] = o := Option.some.inj hf
      have e3 : (nearL es ns[a].f0 ns[a].f1)[j] = ns[o] := by
        rw [← ps_get hy]; simp only [e2]
      rw [e3]
      exact hR k (by omega)
    · rw [if_neg c, w1n j (by omega)]
      rw [decide_eq_false c] at hf
      exact ih k (j + 1) (by omega) hf (by omega)
theorem sp_l0 {ns : List S36} {es : List S56} (h : GOk ns es = true) {s : Nat} {D : List Int} {M : List Nat} (hB : BI ns.length (nb ns es) s ns.length D M) : ∀ (e k a : Nat) (P : List S36), (ha : a < ns.length) → rd D (a : Int) = (e : Int) → e ≤ 40 → P.length + e ≤ 900 → 5000 + 100 * e < k →
    spec_WalkPath.l0 k D (e : Int) (P ++ [ns[a]]) ns es = some (P ++ [ns[a]] ++ nodesOf ns (pth (nb ns es) D e a), true) := by
  intro e
  induction e with
  | zero =>
    intro k a P ha he _ _ hk
    obtain ⟨k, rfl⟩ : ∃ z, k = z + 1 := ⟨k - 1, by omega⟩
    rw [spec_WalkPath.l0]
    rw [if_neg (by omega)]
    simp [pth, nodesOf]
  | succ e ih =>
    intro k a P ha he h1 h2 hk
    obtain ⟨k, rfl⟩ : ∃ z, k = z + 1 := ⟨k - 1, by omega⟩
    obtain ⟨o, o1, o2, o3⟩ := less h hB ha he
    have hl := nearL_len es ns[a].f0 ns[a].f1
    have hm := (GOk_parts h).2.2.2
    have el : (P ++ [ns[a]]).length = P.length + 1 := by simp
    rw [spec_WalkPath.l0]
    rw [if_pos (by omega), el, w1m P.length (by omega), if_pos (by omega), if_pos (by omega)]
    have er : rd_T36 (P ++ [ns[a]]) (P.length : Int) = ns[a] := by
      rw [rdT_at (by omega)]; simp
    rw [er, sl2Near ns es h _ _ k (by omega)]
    simp only [Option.bind_some]
    unfold pth
    rw [o1]
    simp only []
    rw [show (0 : Int) = ((0 : Nat) : Int) from rfl]
    refine sp_l1 h _ (5000 + 100 * e + 1) a o ha (by omega) D hB.len e (by omega) (P ++ [ns[a]]) (by omega) o2 (fun q hq => ?_) (nearL es ns[a].f0 ns[a].f1).length k 0 (by omega) (by rw [List.drop_zero]; exact o1) (by omega)
    rw [ih q o (P ++ [ns[a]]) o2 o3 (by omega) (by omega) (by omega)]
    congr 2
    rw [List.append_assoc (P ++ [ns[a]])]
    congr 1
    simp [nodesOf, List.getD_eq_getElem?_getD, o2]
/-- The way. -/
def Wp (ns : List S36) (es : List S56) (x y : S36) : List S36 × Bool :=
  if GOk ns es = true then (if In ns x.f0 x.f1 = true then (if In ns y.f0 y.f1 = true then
    (if rd (bfs ns.length (nb ns es) (ps ns y)).1 (ps ns x : Int) < 0 then ([], false) else
      ([x] ++ nodesOf ns (pth (nb ns es) (bfs ns.length (nb ns es) (ps ns y)).1 (rd (bfs ns.length (nb ns es) (ps ns y)).1 (ps ns x : Int)).toNat (ps ns x)), true)) else ([], false)) else ([], false)) else ([], false)
theorem Wp_len (ns : List S36) (es : List S56) (x y : S36) : (Wp ns es x y).1.length ≤ 100 := by
  unfold Wp
  by_cases h : GOk ns es = true
  · rw [if_pos h]
    by_cases hx : In ns x.f0 x.f1 = true
    · rw [if_pos hx]
      by_cases hy : In ns y.f0 y.f1 = true
      · rw [if_pos hy]
        obtain ⟨hB, _⟩ := bfs_ok (nb_lt h) (ps_lt (In_mem.1 hy))
        have hb := hB.b _ (ps_lt (In_mem.1 hx))
        have hn := (GOk_parts h).2.2.1
        split
        · simp
        · have := pth_len (nb ns es) (bfs ns.length (nb ns es) (ps ns y)).1 (rd (bfs ns.length (nb ns es) (ps ns y)).1 (ps ns x : Int)).toNat (ps ns x)
          simp only [List.length_append, List.length_singleton, nodesOf_len]
          omega
      · rw [if_neg hy]; simp
    · rw [if_neg hx]; simp
  · rw [if_neg h]; simp
theorem iWp (ns : List S36) (es : List S56) (x y : S36) (hn : ns.length ≤ 2097152) (hm : es.length ≤ 2097152) (k : Nat) (hk : 2 * ns.length + 2 * es.length + 20000 < k) : impl_WalkPath.f k ns es x.f0 x.f1 y.f0 y.f1 = some (Wp ns es x y) := by
  obtain ⟨k, rfl⟩ : ∃ z, k = z + 1 := ⟨k - 1, by omega⟩
  unfold impl_WalkPath.f Wp
  rw [iGraphOk_ok ns es hn hm (k + 1) (by omega)]
  simp only [Option.bind_some]
  by_cases h : GOk ns es = true
  · rw [if_pos h, if_pos h, place_ok es (GOk_parts h).1 x (k + 1) (by omega), place_ok es (GOk_parts h).1 y (k + 1) (by omega)]
    simp only [Option.bind_some]
    by_cases hx : In ns x.f0 x.f1 = true
    · have hxm := In_mem.1 hx
      rw [if_pos hx, pz_in hxm, if_neg (by omega), impl_WalkPath.j0]
      by_cases hy : In ns y.f0 y.f1 = true
      · have hym := In_mem.1 hy
        rw [if_pos hy, pz_in hym, decide_eq_false (by omega), if_neg (by simp), np_ok h k (by omega)]
        simp only [Option.bind_some]
        rw [steps_ok h (ps_lt hym) k (by omega)]
        simp only [Option.bind_some]
        obtain ⟨hB, _⟩ := bfs_ok (nb_lt h) (ps_lt hym)
        have hb := hB.b _ (ps_lt hxm)
        have hl := hB.len
        have hxl := ps_lt hxm
        have hn2 := (GOk_parts h).2.2.1
        rw [if_pos (by omega), if_pos (by omega)]
        by_cases c : rd (bfs ns.length (nb ns es) (ps ns y)).1 (ps ns x : Int) < 0
        · rw [if_pos c, if_pos c]
        · rw [if_neg c, if_neg c]
          exact ip_l0 h hB (rd (bfs ns.length (nb ns es) (ps ns y)).1 (ps ns x : Int)).toNat k (ps ns x) [x] hxl (by omega) (by omega) (by simp; omega) (by omega)
      · rw [if_neg hy]
        have e : pz ns y = -1 := by unfold pz; rw [if_neg hy]
        rw [e, decide_eq_true (by omega), if_pos rfl]
    · rw [if_neg hx]
      have e : pz ns x = -1 := by unfold pz; rw [if_neg hx]
      rw [e, if_pos (by omega), impl_WalkPath.j0, if_pos rfl]
  · rw [if_neg h, if_neg h]
theorem sWp (ns : List S36) (es : List S56) (x y : S36) (hn : ns.length ≤ 2097152) (hm : es.length ≤ 2097152) (k : Nat) (hk : 2 * ns.length + 2 * es.length + 20000 < k) : spec_WalkPath.f k ns es x.f0 x.f1 y.f0 y.f1 = some (Wp ns es x y) := by
  obtain ⟨k, rfl⟩ : ∃ z, k = z + 1 := ⟨k - 1, by omega⟩
  unfold spec_WalkPath.f Wp
  rw [sGraphOk_ok ns es hn hm (k + 1) (by omega)]
  simp only [Option.bind_some]
  by_cases h : GOk ns es = true
  · rw [if_pos h, if_pos h, l2At_ok ns es hn x (k + 1) (by omega)]
    simp only [Option.bind_some]
    by_cases hx : In ns x.f0 x.f1 = true
    · have hxm := In_mem.1 hx
      rw [if_pos hx, pz_in hxm, if_neg (by omega), l2At_ok ns es hn y (k + 1) (by omega)]
      simp only [Option.bind_some]
      rw [spec_WalkPath.j0]
      by_cases hy : In ns y.f0 y.f1 = true
      · have hym := In_mem.1 hy
        rw [if_pos hy, pz_in hym, decide_eq_false (by omega), if_neg (by simp), dist_ok h hym k (by omega)]
        simp only [Option.bind_some]
        rw [l2At_ok ns es hn x k (by omega), pz_in hxm]
        simp only [Option.bind_some]
        obtain ⟨hB, _⟩ := bfs_ok (nb_lt h) (ps_lt hym)
        have hb := hB.b _ (ps_lt hxm)
        have hl := hB.len
        have hxl := ps_lt hxm
        have hn2 := (GOk_parts h).2.2.1
        rw [if_pos (by omega), if_pos (by omega)]
        by_cases c : rd (bfs ns.length (nb ns es) (ps ns y)).1 (ps ns x : Int) < 0
        · rw [if_pos c, if_pos c]
        · rw [if_neg c, if_neg c]
          have := sp_l0 h hB (rd (bfs ns.length (nb ns es) (ps ns y)).1 (ps ns x : Int)).toNat k (ps ns x) [] hxl (by omega) (by omega) (by simp; omega) (by omega)
          rw [Int.toNat_of_nonneg (by omega), ps_get hxm] at this
          exact this
      · rw [if_neg hy]
        have e : pz ns y = -1 := by unfold pz; rw [if_neg hy]
        rw [e, decide_eq_true (by omega), if_pos rfl]
    · rw [if_neg hx]
      have e : pz ns x = -1 := by unfold pz; rw [if_neg hx]
      rw [e, if_pos (by omega), spec_WalkPath.j0, if_pos rfl]
  · rw [if_neg h, if_neg h, spec_WalkPath.j0, if_pos rfl]
theorem FnExactWalkPath : laws_FnExactWalkPath.Pure := by
  intro a b c d c' d' ma _ mb _ _ _ _ _
  obtain ⟨k, hk⟩ : ∃ k, k = 2 * a.length + 2 * b.length + 40000 := ⟨_, rfl⟩
  refine ⟨k + 3, ?_⟩
  unfold laws_FnExactWalkPath.f
  obtain ⟨r, hr, hr1, hr2⟩ := szGraph_ok a b ma mb 1048576 (by omega) (by omega)
  rw [hr]; simp only [Option.bind_some]
  by_cases h : r < 0
  · rw [if_pos h]
  rw [if_neg h]
  have e1 := hr2 (by omega)
  have la : (a.map cvN).length = a.length := by simp
  have lb : (b.map cvE).length = b.length := by simp
  have iN := fun (q : Nat) (hq : k ≤ q) => iWp (a.map cvN) (b.map cvE) ⟨c, d⟩ ⟨c', d'⟩ (by omega) (by omega) q (by omega)
  have sN := sWp (a.map cvN) (b.map cvE) ⟨c, d⟩ ⟨c', d'⟩ (by omega) (by omega) (k + 3) (by omega)
  have hl := Wp_len (a.map cvN) (b.map cvE) ⟨c, d⟩ ⟨c', d'⟩
  generalize Wp (a.map cvN) (b.map cvE) ⟨c, d⟩ ⟨c', d'⟩ = N at iN sN hl
  have eq0 : ∀ q, k ≤ q → laws_eqNodeS.f q N.1 N.1 = some true := fun q hq => by rw [eqNodeS_ok N.1 N.1 (by omega) rfl q (by omega), Ns_self]
  have eq1 := fun (q : Nat) (hq : k ≤ q) => eqGraph_self (a.map cvN) (b.map cvE) (by omega) (by omega) q (by omega)
  obtain ⟨m1, z1, y1, hm1, hm2⟩ := markGraph_tot (a.map cvN) (b.map cvE) (by omega) (by omega) (k + 2) (by omega)
  obtain ⟨m2, z2, hn1, hn2, hn3⟩ := markNodeS_ok N.1 (by omega) (k + 1) (by omega)
  have tg := fun (q : Nat) (hq : k ≤ q) => toGraph_ok a b (by omega) (by omega) q (by omega)
  simp only [tg (k + 3) (by omega), laws_toNode.f, Option.bind_some, sN, iN (k + 3) (by omega), eq0 (k + 3) (by omega), if_true, bne_self_eq_false]
  simp only [laws_FnExactWalkPath.j0, Bool.false_eq_true, if_false, tg (k + 2) (by omega), Option.bind_some, eq1 (k + 2) (by omega), if_true, hm1, eq0 (k + 2) (by omega), bne_self_eq_false]
  rw [if_neg (by omega)]
  simp only [laws_FnExactWalkPath.j1, Bool.false_eq_true, if_false, hn1, Option.bind_some, hn3 (k + 1) (by omega), tg (k + 1) (by omega), laws_toNode.f, iN (k + 1) (by omega), eq0 (k + 1) (by omega), if_true, bne_self_eq_false]
  rw [if_neg (by omega)]
  simp only [laws_FnExactWalkPath.j2, Bool.false_eq_true, if_false, hn3 k (by omega), Option.bind_some]
  rw [if_neg (by omega)]
  simp

end Go.Proofs.Ytohmemckdogljaa.Pure
