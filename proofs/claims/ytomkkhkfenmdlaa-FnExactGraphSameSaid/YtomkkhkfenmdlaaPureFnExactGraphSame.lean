/- The plain law behind FnExactGraphSame: of every two graphs both functions tell the same. -/
import Derived.Test.YtomkkhkfenmdlaaQFnExactGraphSameOpen
namespace Go.Proofs.Ytomkkhkfenmdlaa.Pure
open Go.RowKit Go.Proofs.Ytomkkhkfenmdlaa.QFnExactGraphSame Go.Proofs.YtomkkhkfenmdlaaW.PrintWords Go.Proofs.YtomkkhkfenmdlaaW.PrintLast
set_option linter.unusedSimpArgs false
set_option linter.unusedVariables false

theorem w64 {x : Int} (h : -9223372036854775808 ≤ x ∧ x ≤ 9223372036854775807) : wrap64 x = x := by unfold wrap64; omega
theorem rdB {b : List Int} (hb : ∀ x ∈ b, 0 ≤ x ∧ x ≤ 255) (i : Int) : 0 ≤ rd b i ∧ rd b i ≤ 255 := by
  unfold rd
  rw [List.getD_eq_getElem?_getD]
  cases h : b[i.toNat]? with
  | none => simp
  | some v => exact hb v (List.mem_of_getElem? h)
theorem u8B {l : List Int} (h : ∀ x ∈ l, (Lit.int .u8 x).wf = true) : ∀ x ∈ l, 0 ≤ x ∧ x ≤ 255 := fun x hx => by
  have := h x hx
  simp [Lit.wf, IntKind.min, IntKind.max, IntKind.signed, IntKind.bits] at this
  omega

/-- A loop over the places from i on that stops at the first place where p does not hold. -/
theorem loop_all {l : Nat → Int → Option Bool} {p : Int → Bool} {n : Int} (h : ∀ k i, 0 ≤ i → i ≤ n → l (k + 1) i = if i < n then (if p i = true then l k (i + 1) else some false) else some true) :
    ∀ (d k : Nat) (i : Int), 0 ≤ i → i + d = n → d < k → l k i = some ((List.range d).all fun j => p (i + j)) := by
  intro d
  induction d with
  | zero =>
    intro k i h0 hd hk
    obtain ⟨k, rfl⟩ : ∃ m, k = m + 1 := ⟨k - 1, by omega⟩
    rw [h k i h0 (by omega), if_neg (by omega)]; rfl
  | succ d ih =>
    intro k i h0 hd hk
    obtain ⟨k, rfl⟩ : ∃ m, k = m + 1 := ⟨k - 1, by omega⟩
    rw [h k i h0 (by omega), if_pos (by omega), List.range_succ_eq_map, List.all_cons, List.all_map]
    by_cases hp : p i = true
    · rw [if_pos hp, ih k (i + 1) (by omega) (by omega) (by omega)]
      have e : ∀ j : Nat, i + 1 + (j : Int) = i + ((j + 1 : Nat) : Int) := fun j => by omega
      simp [hp, Function.comp_def, e]
    · rw [if_neg hp]; simp at hp; simp [hp]
/-- A loop that lays f of each place, from i on, into a row as long. -/
theorem loop_set {α : Type} {l : Nat → List α → Int → Option (List α)} {f : Int → α} {n : Nat} (h : ∀ (k : Nat) (xs : List α) (i : Int), xs.length = n → 0 ≤ i → i ≤ n → l (k + 1) xs i = if i < n then l k (xs.set i.toNat (f i)) (i + 1) else some xs) :
    ∀ (d k : Nat) (xs : List α) (i : Nat), xs.length = n → i + d = n → d < k → l k xs i = some (xs.take i ++ (List.range d).map fun j => f ((i + j : Nat) : Int)) := by
  intro d
  induction d with
  | zero =>
    intro k xs i hl hd hk
    obtain ⟨k, rfl⟩ : ∃ m, k = m + 1 := ⟨k - 1, by omega⟩
    rw [h k xs i hl (by omega) (by omega), if_neg (by omega)]
    simp [List.take_of_length_le (show xs.length ≤ i by omega)]
  | succ d ih =>
    intro k xs i hl hd hk
    obtain ⟨k, rfl⟩ : ∃ m, k = m + 1 := ⟨k - 1, by omega⟩
    rw [h k xs i hl (by omega) (by omega), if_pos (by omega)]
    have e := ih k (xs.set (i : Int).toNat (f i)) (i + 1) (by simpa using hl) (by omega) (by omega)
    rw [show ((i + 1 : Nat) : Int) = (i : Int) + 1 by omega] at e
    rw [e, List.range_succ_eq_map, List.map_cons, List.map_map]
    congr 1
    rw [Int.toNat_natCast]
    have hi : i < xs.length := by omega
    rw [List.take_succ_eq_append_getElem (by simpa using hi), List.getElem_set_self, List.take_set_of_le (by omega)]
    simp [Function.comp_def, Nat.add_assoc, Nat.add_comm 1]
theorem loop_set0 {α : Type} {l : Nat → List α → Int → Option (List α)} {f : Int → α} {n : Nat} (h : ∀ (k : Nat) (xs : List α) (i : Int), xs.length = n → 0 ≤ i → i ≤ n → l (k + 1) xs i = if i < n then l k (xs.set i.toNat (f i)) (i + 1) else some xs)
    (k : Nat) (hk : n < k) (xs : List α) (hl : xs.length = n) : l k xs 0 = some ((List.range n).map fun j : Nat => f (j : Int)) := by
  have e := loop_set h n k xs 0 hl (by omega) hk
  simpa using e

def cvN (x : S29) : S35 := ⟨x.f0, x.f1⟩
def cvE (x : S31) : S37 := ⟨x.f0, ⟨x.f1.f0, x.f1.f1⟩, ⟨x.f2.f0, x.f2.f1⟩⟩
theorem toNodeS_ok (l : List S29) (hm : l.length ≤ 1048576) (k : Nat) (hk : l.length < k) : laws_toNodeS.f k l = some (l.map cvN) := by
  unfold laws_toNodeS.f
  rw [if_pos (by omega), if_pos (by omega)]
  have h := loop_set0 (l := fun k xs i => laws_toNodeS.l0 k l xs i) (f := fun i => cvN (rd_T29 l i)) (n := l.length) (fun k xs i hl h0 h1 => by
    show laws_toNodeS.l0 (k + 1) l xs i = _
    simp only [laws_toNodeS.l0, laws_toNode.f, Option.bind_some]
    by_cases h : i < (l.length : Int)
    · rw [if_pos h, if_pos h, if_pos h0, if_pos (by omega), w64 (x := i + 1) (by omega)]; rfl
    · rw [if_neg h, if_neg h]) k hk (List.replicate ((l.length : Int) : Int).toNat z35) (by simp)
  rw [h]
  congr 1
  apply List.ext_getElem (by simp)
  intro j h1 h2
  simp at h1
  simp [rd_T29, List.getD_eq_getElem?_getD, h1]
theorem toEdgeS_ok (l : List S31) (hm : l.length ≤ 1048576) (k : Nat) (hk : l.length < k) : laws_toEdgeS.f k l = some (l.map cvE) := by
  unfold laws_toEdgeS.f
  rw [if_pos (by omega), if_pos (by omega)]
  have h := loop_set0 (l := fun k xs i => laws_toEdgeS.l0 k l xs i) (f := fun i => cvE (rd_T31 l i)) (n := l.length) (fun k xs i hl h0 h1 => by
    show laws_toEdgeS.l0 (k + 1) l xs i = _
    simp only [laws_toEdgeS.l0, laws_toEdge.f, laws_toNode.f, Option.bind_some]
    by_cases h : i < (l.length : Int)
    · rw [if_pos h, if_pos h, if_pos h0, if_pos (by omega), w64 (x := i + 1) (by omega)]; rfl
    · rw [if_neg h, if_neg h]) k hk (List.replicate ((l.length : Int) : Int).toNat z37) (by simp)
  rw [h]
  congr 1
  apply List.ext_getElem (by simp)
  intro j h1 h2
  simp at h1
  simp [rd_T31, List.getD_eq_getElem?_getD, h1]
theorem toGraph_ok (a : List S29) (b : List S31) (ha : a.length ≤ 1048576) (hb : b.length ≤ 1048576) (k : Nat) (hk : a.length + b.length < k) : laws_toGraph.f k a b = some (a.map cvN, b.map cvE) := by
  unfold laws_toGraph.f
  rw [toNodeS_ok a ha k (by omega), toEdgeS_ok b hb k (by omega)]; rfl
theorem szGraph_ok (a : List S29) (b : List S31) (ha : a.length ≤ maxLen) (hb : b.length ≤ maxLen) (n : Int) (h0 : 0 ≤ n) (h1 : n ≤ 1048576) :
    ∃ r, laws_szGraph.f a b n = some r ∧ r ≤ n ∧ (0 ≤ r → a.length + b.length + r = n) := by
  unfold maxLen at ha hb
  unfold laws_szGraph.f laws_szNodeS.f laws_szEdgeS.f
  rw [w64 (x := n - (a.length : Int)) (by omega)]
  by_cases h : n - (a.length : Int) < 0
  · rw [if_pos h]; simp only [Option.bind_some]; rw [if_pos (by omega)]; exact ⟨-1, rfl, by omega, by omega⟩
  · rw [if_neg h]; simp only [Option.bind_some]; rw [if_neg h, w64 (x := n - (a.length : Int) - (b.length : Int)) (by omega)]
    by_cases h' : n - (a.length : Int) - (b.length : Int) < 0
    · rw [if_pos h']; simp only [Option.bind_some]; rw [if_pos (by omega)]; exact ⟨-1, rfl, by omega, by omega⟩
    · rw [if_neg h']; simp only [Option.bind_some]; rw [if_neg h']; exact ⟨_, rfl, by omega, by omega⟩
def EN (a b : S35) : Bool := a.f0 == b.f0 && (a.f1 == b.f1)
def EE (a b : S37) : Bool := a.f0 == b.f0 && ((a.f1.f0 == b.f1.f0 && (a.f1.f1 == b.f1.f1)) && (a.f2.f0 == b.f2.f0 && (a.f2.f1 == b.f2.f1)))
theorem EN_self (a : S35) : EN a a = true := by simp [EN]
theorem EE_self (a : S37) : EE a a = true := by simp [EE]
def Ns (xs ys : List S35) : Bool := (List.range xs.length).all fun j => EN (rd_T35 xs (0 + (j : Int))) (rd_T35 ys (0 + (j : Int)))
def Ed (xs ys : List S37) : Bool := (List.range xs.length).all fun j => EE (rd_T37 xs (0 + (j : Int))) (rd_T37 ys (0 + (j : Int)))
theorem Ns_self (xs : List S35) : Ns xs xs = true := by unfold Ns; rw [List.all_eq_true]; intro j _; exact EN_self _
theorem Ed_self (xs : List S37) : Ed xs xs = true := by unfold Ed; rw [List.all_eq_true]; intro j _; exact EE_self _
theorem eqNodeS_ok (xs ys : List S35) (hm : xs.length ≤ 2097152) (hl : xs.length = ys.length) (k : Nat) (hk : xs.length < k) : laws_eqNodeS.f k xs ys = some (Ns xs ys) := by
  unfold laws_eqNodeS.f
  rw [if_pos (by omega)]
  exact loop_all (l := fun k i => laws_eqNodeS.l0 k xs ys i) (p := fun i => EN (rd_T35 xs i) (rd_T35 ys i)) (n := xs.length) (fun k i h0 h1 => by
    show laws_eqNodeS.l0 (k + 1) xs ys i = _
    simp only [laws_eqNodeS.l0, laws_eqNode.f]
    by_cases h : i < (xs.length : Int)
    · rw [if_pos h, if_pos h, if_pos h0, if_pos (by omega), w64 (x := i + 1) (by omega)]
      unfold EN
      by_cases c1 : (rd_T35 xs i).f0 = (rd_T35 ys i).f0
      · by_cases c2 : (rd_T35 xs i).f1 = (rd_T35 ys i).f1
        · simp [c1, c2]
        · simp [c1, c2]
      · simp [c1]
    · rw [if_neg h, if_neg h]) xs.length k 0 (by omega) (by omega) hk
theorem eqEdge_ok (a b : S37) : laws_eqEdge.f a.f0 a.f1.f0 a.f1.f1 a.f2.f0 a.f2.f1 b.f0 b.f1.f0 b.f1.f1 b.f2.f0 b.f2.f1 = some (EE a b) := by
  unfold laws_eqEdge.f laws_eqNode.f EE
  by_cases c0 : a.f0 = b.f0 <;> by_cases c1 : a.f1.f0 = b.f1.f0 <;> by_cases c2 : a.f1.f1 = b.f1.f1 <;> by_cases c3 : a.f2.f0 = b.f2.f0 <;> by_cases c4 : a.f2.f1 = b.f2.f1 <;> simp [c0, c1, c2, c3, c4]
theorem eqEdgeS_ok (xs ys : List S37) (hm : xs.length ≤ 2097152) (hl : xs.length = ys.length) (k : Nat) (hk : xs.length < k) : laws_eqEdgeS.f k xs ys = some (Ed xs ys) := by
  unfold laws_eqEdgeS.f
  rw [if_pos (by omega)]
  exact loop_all (l := fun k i => laws_eqEdgeS.l0 k xs ys i) (p := fun i => EE (rd_T37 xs i) (rd_T37 ys i)) (n := xs.length) (fun k i h0 h1 => by
    show laws_eqEdgeS.l0 (k + 1) xs ys i = _
    simp only [laws_eqEdgeS.l0]
    by_cases h : i < (xs.length : Int)
    · rw [if_pos h, if_pos h, if_pos h0, if_pos (by omega), w64 (x := i + 1) (by omega), eqEdge_ok]; rfl
    · rw [if_neg h, if_neg h]) xs.length k 0 (by omega) (by omega) hk
/-- A graph is the same as itself. -/
theorem eqGraph_self (xs : List S35) (ys : List S37) (hx : xs.length ≤ 2097152) (hy : ys.length ≤ 2097152) (k : Nat) (hk : xs.length + ys.length < k) : laws_eqGraph.f k xs ys xs ys = some true := by
  unfold laws_eqGraph.f
  rw [eqNodeS_ok xs xs hx rfl k (by omega), Ns_self, eqEdgeS_ok ys ys hy rfl k (by omega), Ed_self]; rfl

theorem loop_then {l : Nat → Int → Option Bool} {p : Int → Bool} {n : Int} {rest : Nat → Option Bool} {K : Nat} {b : Bool} (hr : ∀ k, K ≤ k → rest k = some b)
    (h : ∀ (k : Nat) (i : Int), 0 ≤ i → i ≤ n → l (k + 1) i = if i < n then (if p i = true then l k (i + 1) else some false) else rest k) :
    ∀ (d k : Nat) (i : Int), 0 ≤ i → i + d = n → d + K < k → l k i = some (((List.range d).all fun j => p (i + j)) && b) := by
  intro d
  induction d with
  | zero =>
    intro k i h0 hd hk
    obtain ⟨k, rfl⟩ : ∃ m, k = m + 1 := ⟨k - 1, by omega⟩
    rw [h k i h0 (by omega), if_neg (by omega), hr k (by omega)]; rfl
  | succ d ih =>
    intro k i h0 hd hk
    obtain ⟨k, rfl⟩ : ∃ m, k = m + 1 := ⟨k - 1, by omega⟩
    rw [h k i h0 (by omega), if_pos (by omega), List.range_succ_eq_map, List.all_cons, List.all_map]
    by_cases hp : p i = true
    · rw [if_pos hp, ih k (i + 1) (by omega) (by omega) (by omega)]
      have e : ∀ j : Nat, i + 1 + (j : Int) = i + ((j + 1 : Nat) : Int) := fun j => by omega
      simp [hp, Function.comp_def, e]
    · rw [if_neg hp]; simp at hp; simp [hp]

theorem nEN (a b : S35) : ((!(a.f0 == b.f0) || (!(a.f1 == b.f1))) = true) ↔ ¬ EN a b = true := by
  unfold EN; cases (a.f0 == b.f0) <;> cases (a.f1 == b.f1) <;> simp
theorem nEE (a b : S37) : ((!(a.f0 == b.f0) || ((!(a.f1.f0 == b.f1.f0) || (!(a.f1.f1 == b.f1.f1))) || ((!(a.f2.f0 == b.f2.f0) || (!(a.f2.f1 == b.f2.f1)))))) = true) ↔ ¬ EE a b = true := by
  unfold EE; cases (a.f0 == b.f0) <;> cases (a.f1.f0 == b.f1.f0) <;> cases (a.f1.f1 == b.f1.f1) <;> cases (a.f2.f0 == b.f2.f0) <;> cases (a.f2.f1 == b.f2.f1) <;> simp
/-- Two graphs are one. -/
def Gs (a : List S35) (b : List S37) (c : List S35) (d : List S37) : Bool := decide (a.length = c.length) && (decide (b.length = d.length) && (Ns a c && Ed b d))

theorem iNodeS_ok (xs ys : List S35) (hm : xs.length ≤ 2097152) (k : Nat) (hk : xs.length < k) : impl_Node.f k xs ys = some (decide (xs.length = ys.length) && Ns xs ys) := by
  unfold impl_Node.f
  by_cases hl : xs.length = ys.length
  · rw [if_pos (by omega), decide_eq_true hl, Bool.true_and]
    exact loop_all (l := fun k i => impl_Node.l0 k xs ys xs.length i) (p := fun i => EN (rd_T35 xs i) (rd_T35 ys i)) (n := xs.length) (fun k i h0 h1 => by
      show impl_Node.l0 (k + 1) xs ys xs.length i = _
      simp only [impl_Node.l0]
      by_cases h : i < (xs.length : Int)
      · rw [if_pos h, if_pos h, if_pos h0, if_pos h, if_pos (by omega), w64 (x := i + 1) (by omega)]
        by_cases c : EN (rd_T35 xs i) (rd_T35 ys i) = true
        · rw [if_neg (fun h => (nEN _ _).1 h c), if_pos c]
        · rw [if_pos ((nEN _ _).2 c), if_neg c]
      · rw [if_neg h, if_neg h]) xs.length k 0 (by omega) (by omega) hk
  · rw [if_neg (by omega), decide_eq_false hl, Bool.false_and]
theorem iEdgeS_ok (xs ys : List S37) (hm : xs.length ≤ 2097152) (k : Nat) (hk : xs.length < k) : impl_Edge.f k xs ys = some (decide (xs.length = ys.length) && Ed xs ys) := by
  unfold impl_Edge.f
  by_cases hl : xs.length = ys.length
  · rw [if_pos (by omega), decide_eq_true hl, Bool.true_and]
    exact loop_all (l := fun k i => impl_Edge.l0 k xs ys xs.length i) (p := fun i => EE (rd_T37 xs i) (rd_T37 ys i)) (n := xs.length) (fun k i h0 h1 => by
      show impl_Edge.l0 (k + 1) xs ys xs.length i = _
      simp only [impl_Edge.l0]
      by_cases h : i < (xs.length : Int)
      · rw [if_pos h, if_pos h, if_pos h0, if_pos h, if_pos (by omega), w64 (x := i + 1) (by omega)]
        by_cases c : EE (rd_T37 xs i) (rd_T37 ys i) = true
        · rw [if_neg (fun h => (nEE _ _).1 h c), if_pos c]
        · rw [if_pos ((nEE _ _).2 c), if_neg c]
      · rw [if_neg h, if_neg h]) xs.length k 0 (by omega) (by omega) hk
  · rw [if_neg (by omega), decide_eq_false hl, Bool.false_and]
theorem iGraphSame_ok (a : List S35) (b : List S37) (c : List S35) (d : List S37) (ha : a.length ≤ 2097152) (hb : b.length ≤ 2097152) (k : Nat) (hk : a.length + b.length < k) : impl_GraphSame.f k a b c d = some (Gs a b c d) := by
  unfold impl_GraphSame.f Gs
  rw [iNodeS_ok a c ha k (by omega)]
  simp only [Option.bind_some]
  rw [iEdgeS_ok b d hb k (by omega)]
  cases decide (a.length = c.length) <;> cases Ns a c <;> simp

theorem sGraphSame_ok (a : List S35) (b : List S37) (c : List S35) (d : List S37) (ha : a.length ≤ 2097152) (hb : b.length ≤ 2097152) (k : Nat) (hk : a.length + b.length + 4 < k) : spec_GraphSame.f k a b c d = some (Gs a b c d) := by
  obtain ⟨k, rfl⟩ : ∃ m, k = m + 1 := ⟨k - 1, by omega⟩
  unfold spec_GraphSame.f Gs
  by_cases hl : a.length = c.length
  · rw [if_pos (by omega), decide_eq_true hl, Bool.true_and]
    by_cases hm : b.length = d.length
    · rw [show ((b.length : Int) != (d.length : Int)) = false by simp [hm], decide_eq_true hm, Bool.true_and]
      simp only [spec_GraphSame.j0, Bool.false_eq_true, if_false]
      refine loop_then (l := fun k i => spec_GraphSame.l0 k i a b c d) (p := fun i => EN (rd_T35 a i) (rd_T35 c i)) (n := a.length) (K := b.length + 1) (b := Ed b d) (rest := fun k => spec_GraphSame.l1 k 0 a b c d) (fun k hk => ?_) (fun k i h0 h1 => ?_) a.length k 0 (by omega) (by omega) (by omega)
      · exact loop_all (l := fun k i => spec_GraphSame.l1 k i a b c d) (p := fun i => EE (rd_T37 b i) (rd_T37 d i)) (n := b.length) (fun k i h0 h1 => by
          show spec_GraphSame.l1 (k + 1) i a b c d = _
          simp only [spec_GraphSame.l1]
          by_cases h : i < (b.length : Int)
          · rw [if_pos h, if_pos h, if_pos h0, if_pos (by omega), w64 (x := i + 1) (by omega)]
            by_cases c : EE (rd_T37 b i) (rd_T37 d i) = true
            · rw [if_neg (fun h => (nEE _ _).1 h c), if_pos c]
            · rw [if_pos ((nEE _ _).2 c), if_neg c]
          · rw [if_neg h, if_neg h]) b.length k 0 (by omega) (by omega) (by omega)
      · show spec_GraphSame.l0 (k + 1) i a b c d = _
        simp only [spec_GraphSame.l0]
        by_cases h : i < (a.length : Int)
        · rw [if_pos h, if_pos h, if_pos h0, if_pos (by omega), w64 (x := i + 1) (by omega)]
          by_cases e : EN (rd_T35 a i) (rd_T35 c i) = true
          · rw [if_neg (fun h => (nEN _ _).1 h e), if_pos e]
          · rw [if_pos ((nEN _ _).2 e), if_neg e]
        · rw [if_neg h, if_neg h]
    · rw [show ((b.length : Int) != (d.length : Int)) = true by simp; omega, decide_eq_false hm, Bool.false_and]
      simp [spec_GraphSame.j0]
  · rw [if_neg (by omega), decide_eq_false hl, Bool.false_and]
    simp [spec_GraphSame.j0]

theorem FnExactGraphSame : laws_FnExactGraphSame.Pure := by
  intro a b c d ma _ mb _ mc _ md _
  obtain ⟨k, hk⟩ : ∃ k, k = a.length + b.length + c.length + d.length + 10 := ⟨_, rfl⟩
  refine ⟨k, ?_⟩
  unfold laws_FnExactGraphSame.f
  obtain ⟨r, hr, hr1, hr2⟩ := szGraph_ok a b ma mb 1048576 (by omega) (by omega)
  rw [hr]; simp only [Option.bind_some]
  by_cases h : r < 0
  · rw [if_pos h]
  rw [if_neg h]
  obtain ⟨q, hq, hq1, hq2⟩ := szGraph_ok c d mc md r (by omega) (by omega)
  rw [hq]; simp only [Option.bind_some]
  by_cases h' : q < 0
  · rw [if_pos h']
  rw [if_neg h']
  have e1 := hr2 (by omega)
  have e2 := hq2 (by omega)
  simp only [toGraph_ok a b (by omega) (by omega) k (by omega), toGraph_ok c d (by omega) (by omega) k (by omega), Option.bind_some]
  rw [sGraphSame_ok _ _ _ _ (by simp; omega) (by simp; omega) k (by simp; omega), iGraphSame_ok _ _ _ _ (by simp; omega) (by simp; omega) k (by simp; omega)]
  simp only [Option.bind_some, bne_self_eq_false, Bool.false_eq_true, if_false]
  rw [eqGraph_self _ _ (by simp; omega) (by simp; omega) k (by simp; omega), eqGraph_self _ _ (by simp; omega) (by simp; omega) k (by simp; omega)]
  rfl

end Go.Proofs.Ytomkkhkfenmdlaa.Pure
