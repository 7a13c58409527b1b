/- The plain law behind FnGraphUnion: at whatever graph and labels are drawn, the view of what both see and of what either sees are told by the two views. -/
import Derived.Test.YtohmemckdogljaaQFnGraphUnionOpen
namespace Go.Proofs.Ytohmemckdogljaa.Pure
open Go.RowKit Go.Proofs.Ytohmemckdogljaa.QFnGraphUnion Go.Proofs.YtohmemckdogljaaW.PrintWords Go.Proofs.YtohmemckdogljaaW.PrintLast
set_option linter.unusedSimpArgs false
set_option linter.unusedVariables false

open Go.Proofs.Ytohmemckdogljaa.Bl
/-- Nodes are right and ascend, from a number on. -/
def Asc : List S36 → Int → Bool
  | [], _ => true
  | x :: xs, last => decide (last < Cd x.f0 x.f1) && Asc xs (Cd x.f0 x.f1)
/-- How many nodes there are of a label. -/
def cN (a : Int) (xs : List S36) : Nat := (xs.filter fun x => x.f0 == a).length
def cE (a : Int) (xs : List S56) : Nat := (xs.filter fun x => x.f0 == a).length
/-- Nodes as the program goes through them. -/
def NR : List S36 → Int → List Int → Bool
  | [], _, _ => true
  | x :: xs, last, m => if Cd x.f0 x.f1 ≤ last then false else if rd m x.f0 = 5 then false else NR xs (Cd x.f0 x.f1) (m.set x.f0.toNat (wrap64 (rd m x.f0 + 1)))
theorem rdT_at {xs : List S36} {i : Nat} (h : i < xs.length) : rd_T36 xs (i : Int) = xs[i] := by
  unfold rd_T36; rw [Int.toNat_natCast, List.getD_eq_getElem?_getD, List.getElem?_eq_getElem h]; rfl
theorem rdE_at {xs : List S56} {i : Nat} (h : i < xs.length) : rd_T56 xs (i : Int) = xs[i] := by
  unfold rd_T56; rw [Int.toNat_natCast, List.getD_eq_getElem?_getD, List.getElem?_eq_getElem h]; rfl
theorem nodesOk_l0 (xs : List S36) (hm : xs.length ≤ 2097152) : ∀ (d k : Nat) (i : Nat) (last : Int) (m : List Int), i + d = xs.length → d < k → impl_nodesOk.l0 k xs last m i = some (NR (xs.drop i) last m) := by
  intro d
  induction d with
  | zero =>
    intro k i last m hd hk
    obtain ⟨k, rfl⟩ : ∃ m, k = m + 1 := ⟨k - 1, by omega⟩
    simp only [impl_nodesOk.l0]
    rw [if_neg (by omega), List.drop_of_length_le (by omega)]; rfl
  | succ d ih =>
    intro k i last m hd hk
    obtain ⟨k, rfl⟩ : ∃ m, k = m + 1 := ⟨k - 1, by omega⟩
    have hi : i < xs.length := by omega
    simp only [impl_nodesOk.l0]
    rw [if_pos (by omega), if_pos (by omega), rdT_at hi, List.drop_eq_getElem_cons hi]
    simp only [NR]
    have e := ih k (i + 1)
    rw [show ((i + 1 : Nat) : Int) = (i : Int) + 1 by omega] at e
    rw [w64 (x := (i : Int) + 1) (by omega)]
    split
    · rfl
    · split
      · rfl
      · exact e _ _ (by omega) (by omega)
/-- The counts hold what they should, and none is over five. -/
theorem NR_eq : ∀ (xs : List S36) (last : Int) (m : List Int), -1 ≤ last → m.length = 8 → (∀ a : Nat, a < 8 → 0 ≤ rd m a ∧ rd m a ≤ 5) →
    NR xs last m = (Asc xs last && (List.range 8).all fun a => decide (rd m a + cN a xs ≤ 5))
  | [], last, m, h0, hl, hm => by
    have : ((List.range 8).all fun a => decide (rd m a + cN a ([] : List S36) ≤ 5)) = true := by
      rw [List.all_eq_true]
      intro a ha
      have := hm a (List.mem_range.1 ha)
      simp [cN]; omega
    rw [this]; rfl
  | x :: xs, last, m, h0, hl, hm => by
    simp only [NR, Asc]
    by_cases c : Cd x.f0 x.f1 ≤ last
    · rw [if_pos c, decide_eq_false (by omega)]; rfl
    · rw [if_neg c, decide_eq_true (by omega : last < Cd x.f0 x.f1), Bool.true_and]
      obtain ⟨e1, e2, e3, e4, e5⟩ := Cd_ok (a := x.f0) (b := x.f1) (by omega)
      obtain ⟨j, hj⟩ := Int.eq_ofNat_of_zero_le e2
      rw [hj]
      have hj8 : j < 8 := by omega
      have hmj := hm j hj8
      by_cases c2 : rd m (j : Int) = 5
      · rw [if_pos c2]
        have : ((List.range 8).all fun a => decide (rd m a + cN a (x :: xs) ≤ 5)) = false := by
          rw [List.all_eq_false]
          refine ⟨j, List.mem_range.2 hj8, ?_⟩
          have : 1 ≤ cN (j : Int) (x :: xs) := by simp [cN, hj]
          simp; omega
        rw [this, Bool.and_false]
      · rw [if_neg c2, ← hj, w64 (x := rd m x.f0 + 1) (by rw [hj]; omega)]
        have hr : ∀ a : Nat, a < 8 → rd (m.set x.f0.toNat (rd m x.f0 + 1)) a = if a = j then rd m a + 1 else rd m a := by
          intro a ha
          rw [hj, Int.toNat_natCast]
          unfold rd
          simp only [Int.toNat_natCast, List.getD_eq_getElem?_getD, List.getElem?_set]
          by_cases q : j = a
          · subst q; simp [hl, hj8]
          · rw [if_neg q, if_neg (fun h => q h.symm)]
        rw [NR_eq xs (Cd x.f0 x.f1) _ (by omega) (by simpa using hl) (fun a ha => by
          rw [hr a ha]; have := hm a ha; split
          · rename_i q; subst q; omega
          · omega)]
        congr 1
        apply Bool.eq_iff_iff.2
        rw [List.all_eq_true, List.all_eq_true]
        have hc : ∀ a : Nat, a < 8 → (rd (m.set x.f0.toNat (rd m x.f0 + 1)) a + cN a xs = rd m a + cN a (x :: xs)) := by
          intro a ha
          rw [hr a ha]
          by_cases q : a = j
          · subst q; rw [if_pos rfl]; simp [cN, hj]; omega
          · rw [if_neg q]
            have : ¬ ((x.f0 == (a : Int)) = true) := by rw [hj]; simp; omega
            simp [cN, List.filter_cons, this]
        constructor
        · intro h a ha; have := h a ha; have e := hc a (List.mem_range.1 ha); simp at this ⊢; omega
        · intro h a ha; have := h a ha; have e := hc a (List.mem_range.1 ha); simp at this ⊢; omega
theorem Asc_ok : ∀ (xs : List S36) (last : Int), -1 ≤ last → Asc xs last = true → ∀ x ∈ xs, nOk x.f0 x.f1 = true ∧ last < Cd x.f0 x.f1
  | [], _, _, _, x, hx => by cases hx
  | y :: xs, last, h0, h, x, hx => by
    simp only [Asc, Bool.and_eq_true, decide_eq_true_eq] at h
    have c := Cd_ok (a := y.f0) (b := y.f1) (by omega)
    rcases List.mem_cons.1 hx with rfl | hx
    · exact ⟨nOk_iff.2 ⟨⟨c.2.1, c.2.2.1⟩, ⟨c.2.2.2.1, c.2.2.2.2⟩⟩, h.1⟩
    · have := Asc_ok xs _ (by omega) h.2 x hx
      exact ⟨this.1, by omega⟩
theorem len_sum : ∀ (xs : List S36), (∀ x ∈ xs, 0 ≤ x.f0 ∧ x.f0 ≤ 7) → xs.length = cN 0 xs + cN 1 xs + cN 2 xs + cN 3 xs + cN 4 xs + cN 5 xs + cN 6 xs + cN 7 xs
  | [], _ => by simp [cN]
  | x :: xs, h => by
    have ih := len_sum xs (fun y hy => h y (List.mem_cons_of_mem _ hy))
    have hx := h x (List.mem_cons_self ..)
    have e : ∀ a : Int, cN a (x :: xs) = cN a xs + if x.f0 = a then 1 else 0 := by
      intro a
      by_cases c : x.f0 = a
      · simp [cN, List.filter_cons, c]
      · simp [cN, List.filter_cons, c]
    simp only [e, List.length_cons]
    rcases (show x.f0 = 0 ∨ x.f0 = 1 ∨ x.f0 = 2 ∨ x.f0 = 3 ∨ x.f0 = 4 ∨ x.f0 = 5 ∨ x.f0 = 6 ∨ x.f0 = 7 by omega) with c | c | c | c | c | c | c | c <;> rw [c] <;> simp <;> omega
theorem len_sumE : ∀ (xs : List S56), (∀ x ∈ xs, 0 ≤ x.f0 ∧ x.f0 ≤ 7) → xs.length = cE 0 xs + cE 1 xs + cE 2 xs + cE 3 xs + cE 4 xs + cE 5 xs + cE 6 xs + cE 7 xs
  | [], _ => by simp [cE]
  | x :: xs, h => by
    have ih := len_sumE xs (fun y hy => h y (List.mem_cons_of_mem _ hy))
    have hx := h x (List.mem_cons_self ..)
    have e : ∀ a : Int, cE a (x :: xs) = cE a xs + if x.f0 = a then 1 else 0 := by
      intro a
      by_cases c : x.f0 = a
      · simp [cE, List.filter_cons, c]
      · simp [cE, List.filter_cons, c]
    simp only [e, List.length_cons]
    rcases (show x.f0 = 0 ∨ x.f0 = 1 ∨ x.f0 = 2 ∨ x.f0 = 3 ∨ x.f0 = 4 ∨ x.f0 = 5 ∨ x.f0 = 6 ∨ x.f0 = 7 by omega) with c | c | c | c | c | c | c | c <;> rw [c] <;> simp <;> omega
/-- The nodes' part of the document's function. -/
theorem specN_l0 (ns : List S36) (es : List S56) (hm : ns.length ≤ 2097152) (R : Option Bool) (K : Nat) (hR : ∀ k, K ≤ k → spec_GraphOk.l1 k 0 ns es = R) : ∀ (d k : Nat) (i : Nat) (last : Int), i + d = ns.length → i ≤ 40 →
    (i = 0 ∧ last = -1 ∨ 0 < i ∧ ∃ h : i - 1 < ns.length, nOk (ns[i - 1]).f0 (ns[i - 1]).f1 = true ∧ last = Cd (ns[i - 1]).f0 (ns[i - 1]).f1) → K + d < k →
    spec_GraphOk.l0 k i ns es = if (Asc (ns.drop i) last && decide (ns.length ≤ 40)) = true then R else some false := by
  intro d
  induction d with
  | zero =>
    intro k i last hd h40 hl hk
    obtain ⟨k, rfl⟩ : ∃ m, k = m + 1 := ⟨k - 1, by omega⟩
    simp only [spec_GraphOk.l0]
    rw [if_neg (by omega), List.drop_of_length_le (by omega), hR k (by omega), if_pos (by simp [Asc]; omega)]
  | succ d ih =>
    intro k i last hd h40 hl hk
    obtain ⟨k, rfl⟩ : ∃ m, k = m + 1 := ⟨k - 1, by omega⟩
    have hi : i < ns.length := by omega
    simp only [spec_GraphOk.l0]
    have ih' := ih k (i + 1) (Cd (ns[i]).f0 (ns[i]).f1) (by omega)
    rw [if_pos (by omega), if_pos (by omega), rdT_at hi, List.drop_eq_getElem_cons hi, sN]
    simp only [Option.bind_some, Asc]
    by_cases c : nOk (ns[i]).f0 (ns[i]).f1 = true
    · have cd : Cd (ns[i]).f0 (ns[i]).f1 = 64 * (ns[i]).f0 + (ns[i]).f1 := by unfold Cd; rw [if_pos c]
      have cn := nOk_iff.1 c
      rw [if_pos c]
      have fin : (if (i : Int) ≥ 40 then some false else spec_GraphOk.l0 k (wrap64 ((i : Int) + 1)) ns es) = if (Asc (ns.drop (i + 1)) (Cd (ns[i]).f0 (ns[i]).f1) && decide (ns.length ≤ 40)) = true then R else some false := by
        by_cases c4 : (i : Int) ≥ 40
        · rw [if_pos c4]; simp only [show ¬ ns.length ≤ 40 by omega, decide_false, Bool.and_false, Bool.false_eq_true, if_false]
        · rw [if_neg c4, w64 (x := (i : Int) + 1) (by omega), show (i : Int) + 1 = ((i + 1 : Nat) : Int) by omega]
          exact ih' (by omega) (.inr ⟨by omega, by simpa using hi, by simpa using c, by simp⟩) (by omega)
      rcases hl with ⟨h0, hl⟩ | ⟨h0, h1, h2, h3⟩
      · rw [if_neg (by omega), fin]; simp only [show last < Cd (ns[i]).f0 (ns[i]).f1 by omega, decide_true, Bool.true_and]
      · rw [if_pos (by omega), w64 (x := (i : Int) - 1) (by omega), if_pos (by omega), if_pos (by omega), show (i : Int) - 1 = ((i - 1 : Nat) : Int) by omega, rdT_at h1, sC2 h2, sC2 c]
        simp only [Option.bind_some]
        have cp : Cd (ns[i - 1]).f0 (ns[i - 1]).f1 = 64 * (ns[i - 1]).f0 + (ns[i - 1]).f1 := by unfold Cd; rw [if_pos h2]
        by_cases c3 : 64 * (ns[i - 1]).f0 + (ns[i - 1]).f1 ≥ 64 * (ns[i]).f0 + (ns[i]).f1
        · rw [if_pos c3]; simp only [show ¬ last < Cd (ns[i]).f0 (ns[i]).f1 by omega, decide_false, Bool.false_and, Bool.false_eq_true, if_false]
        · rw [if_neg c3, fin]; simp only [show last < Cd (ns[i]).f0 (ns[i]).f1 by omega, decide_true, Bool.true_and]
    · rw [if_neg c]
      have : Cd (ns[i]).f0 (ns[i]).f1 = -1 := by unfold Cd; rw [if_neg c]
      have hl' : -1 ≤ last := by
        rcases hl with ⟨_, h⟩ | ⟨_, h1, h2, h3⟩
        · omega
        · rw [h3]; unfold Cd; rw [if_pos h2]; have := nOk_iff.1 h2; omega
      simp only [show ¬ last < Cd (ns[i]).f0 (ns[i]).f1 by omega, decide_false, Bool.false_and, Bool.false_eq_true, if_false]
/-- A node is among them. -/
def In (ns : List S36) (a b : Int) : Bool := ns.any fun x => x.f0 == a && (x.f1 == b)
/-- An edge stands ahead of another one. -/
def Lt (p e : S56) : Bool := if p.f0 = e.f0 then (if p.f1.f0 = e.f1.f0 ∧ p.f1.f1 = e.f1.f1 then decide (Cd p.f2.f0 p.f2.f1 < Cd e.f2.f0 e.f2.f1) else decide (Cd p.f1.f0 p.f1.f1 < Cd e.f1.f0 e.f1.f1)) else decide (p.f0 < e.f0)
def Eo (e : S56) : Bool := EOk e.f0 e.f1.f0 e.f1.f1 e.f2.f0 e.f2.f1
/-- Edges are right, ascend, and stand between nodes that are there. -/
def EAsc (ns : List S36) : List S56 → Option S56 → Bool
  | [], _ => true
  | e :: es, p => Eo e && ((match p with | some p => Lt p e | none => true) && (In ns e.f1.f0 e.f1.f1 && (In ns e.f2.f0 e.f2.f1 && EAsc ns es (some e))))
theorem at_l0 (ns : List S36) (es : List S56) (hm : ns.length ≤ 2097152) (a b : Int) : ∀ (d k : Nat) (i : Nat), i + d = ns.length → d < k → ∃ r, spec_l2At.l0 k i ns es a b = some r ∧ decide (r < 0) = !In (ns.drop i) a b := by
  intro d
  induction d with
  | zero =>
    intro k i hd hk
    obtain ⟨k, rfl⟩ : ∃ m, k = m + 1 := ⟨k - 1, by omega⟩
    simp only [spec_l2At.l0]
    rw [if_neg (by omega), List.drop_of_length_le (by omega)]
    exact ⟨-1, rfl, by simp [In]⟩
  | succ d ih =>
    intro k i hd hk
    obtain ⟨k, rfl⟩ : ∃ m, k = m + 1 := ⟨k - 1, by omega⟩
    have hi : i < ns.length := by omega
    simp only [spec_l2At.l0]
    rw [if_pos (by omega), if_pos (by omega), rdT_at hi, List.drop_eq_getElem_cons hi]
    by_cases c : ((ns[i]).f0 == a && ((ns[i]).f1 == b)) = true
    · rw [if_pos c]; exact ⟨i, rfl, by simp only [In, List.any_cons, c, Bool.true_or]; simp⟩
    · rw [if_neg c, w64 (x := (i : Int) + 1) (by omega), show (i : Int) + 1 = ((i + 1 : Nat) : Int) by omega]
      obtain ⟨r, h1, h2⟩ := ih k (i + 1) (by omega) (by omega)
      refine ⟨r, h1, ?_⟩
      rw [h2]
      simp only [Bool.not_eq_true] at c
      simp only [In, List.any_cons, c, Bool.false_or]
theorem at_ok (ns : List S36) (es : List S56) (hm : ns.length ≤ 2097152) (a b : Int) (k : Nat) (hk : ns.length < k) : ∃ r, spec_l2At.f k ns es a b = some r ∧ decide (r < 0) = !In ns a b := by
  have := at_l0 ns es hm a b ns.length k 0 (by omega) hk
  simpa [spec_l2At.f] using this
theorem Cd_inj {a b c d : Int} (h1 : nOk a b = true) (h2 : nOk c d = true) : 64 * a + b = 64 * c + d ↔ a = c ∧ b = d := by
  have := nOk_iff.1 h1; have := nOk_iff.1 h2; omega
theorem Eo_iff {e : S56} : Eo e = true ↔ (0 ≤ e.f0 ∧ e.f0 ≤ 7) ∧ nOk e.f1.f0 e.f1.f1 = true ∧ nOk e.f2.f0 e.f2.f1 = true ∧ 64 * e.f1.f0 + e.f1.f1 < 64 * e.f2.f0 + e.f2.f1 ∧ U e.f1.f0 e.f0 = true ∧ U e.f2.f0 e.f0 = true := by
  simp [Eo, EOk, isL]
theorem less_ok {p e : S56} (hp : Eo p = true) (he : Eo e = true) : spec_l2Less.f p.f0 p.f1.f0 p.f1.f1 p.f2.f0 p.f2.f1 e.f0 e.f1.f0 e.f1.f1 e.f2.f0 e.f2.f1 = some (Lt p e) := by
  obtain ⟨_, p1, p2, _⟩ := Eo_iff.1 hp
  obtain ⟨_, e1, e2, _⟩ := Eo_iff.1 he
  unfold spec_l2Less.f Lt
  have cd : ∀ {a b : Int}, nOk a b = true → Cd a b = 64 * a + b := fun h => by unfold Cd; rw [if_pos h]
  rw [sC2 p1, sC2 p2, sC2 e1, sC2 e2, cd p1, cd p2, cd e1, cd e2]
  by_cases c : p.f0 = e.f0
  · rw [if_pos c, if_pos c]
    by_cases c2 : p.f1.f0 = e.f1.f0 ∧ p.f1.f1 = e.f1.f1
    · rw [if_pos c2, if_neg (by simp [c2.1, c2.2])]; rfl
    · rw [if_neg c2, if_pos (by simp; omega)]; rfl
  · rw [if_neg c, if_neg c]
/-- The edges' part of the document's function. -/
theorem specE_l1 (ns : List S36) (es : List S56) (hn : ns.length ≤ 2097152) (hm : es.length ≤ 2097152) (R : Option Bool) (K : Nat) (hK : ns.length < K) (hR : ∀ k, K ≤ k → spec_GraphOk.l2 k 0 ns es = R) : ∀ (d k : Nat) (i : Nat) (p : Option S56), i + d = es.length → i ≤ 56 →
    (i = 0 ∧ p = none ∨ 0 < i ∧ ∃ h : i - 1 < es.length, Eo (es[i - 1]) = true ∧ p = some (es[i - 1])) → K + d < k →
    spec_GraphOk.l1 k i ns es = if (EAsc ns (es.drop i) p && decide (es.length ≤ 56)) = true then R else some false := by
  intro d
  induction d with
  | zero =>
    intro k i p hd h40 hl hk
    obtain ⟨k, rfl⟩ : ∃ m, k = m + 1 := ⟨k - 1, by omega⟩
    simp only [spec_GraphOk.l1]
    rw [if_neg (by omega), List.drop_of_length_le (by omega), hR k (by omega), if_pos (by simp [EAsc]; omega)]
  | succ d ih =>
    intro k i p hd h40 hl hk
    obtain ⟨k, rfl⟩ : ∃ m, k = m + 1 := ⟨k - 1, by omega⟩
    have hi : i < es.length := by omega
    simp only [spec_GraphOk.l1]
    have ih' := ih k (i + 1) (some es[i]) (by omega)
    rw [if_pos (by omega), if_pos (by omega), rdE_at hi, List.drop_eq_getElem_cons hi]
    simp only [spec_EdgeOk.f, Option.bind_some, EAsc]
    have eEo : EOk (es[i]).f0 (es[i]).f1.f0 (es[i]).f1.f1 (es[i]).f2.f0 (es[i]).f2.f1 = Eo es[i] := rfl
    rw [eEo]
    by_cases c : Eo es[i] = true
    · obtain ⟨r1, a1, b1⟩ := at_ok ns es hn (es[i]).f1.f0 (es[i]).f1.f1 k (by omega)
      obtain ⟨r2, a2, b2⟩ := at_ok ns es hn (es[i]).f2.f0 (es[i]).f2.f1 k (by omega)
      rw [if_pos c]
      simp only [a1, a2, Option.bind_some]
      have fin : (if r1 < 0 then some false else if r2 < 0 then some false else if (i : Int) ≥ 56 then some false else spec_GraphOk.l1 k (wrap64 ((i : Int) + 1)) ns es) =
          if ((In ns (es[i]).f1.f0 (es[i]).f1.f1 && (In ns (es[i]).f2.f0 (es[i]).f2.f1 && EAsc ns (es.drop (i + 1)) (some es[i]))) && decide (es.length ≤ 56)) = true then R else some false := by
        by_cases q1 : r1 < 0
        · rw [if_pos q1]
          have : In ns (es[i]).f1.f0 (es[i]).f1.f1 = false := by rw [decide_eq_true q1] at b1; simpa using b1.symm
          simp [this]
        · rw [if_neg q1]
          have t1 : In ns (es[i]).f1.f0 (es[i]).f1.f1 = true := by rw [decide_eq_false q1] at b1; simpa using b1.symm
          by_cases q2 : r2 < 0
          · rw [if_pos q2]
            have : In ns (es[i]).f2.f0 (es[i]).f2.f1 = false := by rw [decide_eq_true q2] at b2; simpa using b2.symm
            simp [this]
          · rw [if_neg q2]
            have t2 : In ns (es[i]).f2.f0 (es[i]).f2.f1 = true := by rw [decide_eq_false q2] at b2; simpa using b2.symm
            simp only [t1, t2, Bool.true_and]
            by_cases c4 : (i : Int) ≥ 56
            · rw [if_pos c4]; simp only [show ¬ es.length ≤ 56 by omega, decide_false, Bool.and_false, Bool.false_eq_true, if_false]
            · rw [if_neg c4, w64 (x := (i : Int) + 1) (by omega), show (i : Int) + 1 = ((i + 1 : Nat) : Int) by omega]
              exact ih' (by omega) (.inr ⟨by omega, by simpa using hi, by simpa using c, by simp⟩) (by omega)
      simp only [c, Bool.true_and]
      rcases hl with ⟨h0, rfl⟩ | ⟨h0, h1, h2, rfl⟩
      · rw [if_neg (by omega), fin]; simp only [Bool.true_and]
      · rw [if_pos (by omega), w64 (x := (i : Int) - 1) (by omega), if_pos (by omega), if_pos (by omega), show (i : Int) - 1 = ((i - 1 : Nat) : Int) by omega, rdE_at h1, less_ok h2 c]
        simp only [Option.bind_some]
        by_cases c3 : Lt es[i - 1] es[i] = true
        · rw [if_pos c3, fin]; simp only [c3, Bool.true_and]
        · rw [if_neg c3]; simp only [Bool.not_eq_true] at c3; simp only [c3, Bool.false_and, Bool.false_eq_true, if_false]
    · rw [if_neg c]
      simp only [Bool.not_eq_true] at c
      simp only [c, Bool.false_and, Bool.false_eq_true, if_false]
theorem cN_cons (a : Int) (x : S36) (xs : List S36) : cN a (x :: xs) = cN a xs + if x.f0 = a then 1 else 0 := by
  by_cases c : x.f0 = a
  · simp [cN, List.filter_cons, c]
  · simp [cN, List.filter_cons, c]
theorem cE_cons (a : Int) (x : S56) (xs : List S56) : cE a (x :: xs) = cE a xs + if x.f0 = a then 1 else 0 := by
  by_cases c : x.f0 = a
  · simp [cE, List.filter_cons, c]
  · simp [cE, List.filter_cons, c]
theorem cntN_l0 (ns : List S36) (es : List S56) (hm : ns.length ≤ 2097152) (a : Int) : ∀ (d k : Nat) (n i : Nat), i + d = ns.length → n ≤ i → d < k → spec_l2Nodes.l0 k a n i ns es = some ((n + cN a (ns.drop i) : Nat) : Int) := by
  intro d
  induction d with
  | zero =>
    intro k n i hd hn hk
    obtain ⟨k, rfl⟩ : ∃ m, k = m + 1 := ⟨k - 1, by omega⟩
    simp only [spec_l2Nodes.l0]
    rw [if_neg (by omega), List.drop_of_length_le (by omega)]; simp [cN]
  | succ d ih =>
    intro k n i hd hn hk
    obtain ⟨k, rfl⟩ : ∃ m, k = m + 1 := ⟨k - 1, by omega⟩
    have hi : i < ns.length := by omega
    simp only [spec_l2Nodes.l0]
    rw [if_pos (by omega), if_pos (by omega), rdT_at hi, List.drop_eq_getElem_cons hi, cN_cons, w64 (x := (i : Int) + 1) (by omega), w64 (x := (n : Int) + 1) (by omega), show (i : Int) + 1 = ((i + 1 : Nat) : Int) by omega, show (n : Int) + 1 = ((n + 1 : Nat) : Int) by omega]
    by_cases c : (ns[i]).f0 = a
    · rw [if_pos c, if_pos c, ih k (n + 1) (i + 1) (by omega) (by omega) (by omega)]; congr 2; omega
    · rw [if_neg c, if_neg c, ih k n (i + 1) (by omega) (by omega) (by omega)]; congr 2
theorem cntE_l0 (ns : List S36) (es : List S56) (hm : es.length ≤ 2097152) (a : Int) : ∀ (d k : Nat) (n i : Nat), i + d = es.length → n ≤ i → d < k → spec_l2Edges.l0 k a n i ns es = some ((n + cE a (es.drop i) : Nat) : Int) := by
  intro d
  induction d with
  | zero =>
    intro k n i hd hn hk
    obtain ⟨k, rfl⟩ : ∃ m, k = m + 1 := ⟨k - 1, by omega⟩
    simp only [spec_l2Edges.l0]
    rw [if_neg (by omega), List.drop_of_length_le (by omega)]; simp [cE]
  | succ d ih =>
    intro k n i hd hn hk
    obtain ⟨k, rfl⟩ : ∃ m, k = m + 1 := ⟨k - 1, by omega⟩
    have hi : i < es.length := by omega
    simp only [spec_l2Edges.l0]
    rw [if_pos (by omega), if_pos (by omega), rdE_at hi, List.drop_eq_getElem_cons hi, cE_cons, w64 (x := (i : Int) + 1) (by omega), w64 (x := (n : Int) + 1) (by omega), show (i : Int) + 1 = ((i + 1 : Nat) : Int) by omega, show (n : Int) + 1 = ((n + 1 : Nat) : Int) by omega]
    by_cases c : (es[i]).f0 = a
    · rw [if_pos c, if_pos c, ih k (n + 1) (i + 1) (by omega) (by omega) (by omega)]; congr 2; omega
    · rw [if_neg c, if_neg c, ih k n (i + 1) (by omega) (by omega) (by omega)]; congr 2
/-- No label has too many. -/
def Few (ns : List S36) (es : List S56) : Bool := (List.range 8).all fun a => decide (cN a ns ≤ 5) && decide (cE a es ≤ 7)
theorem specC_l2 (ns : List S36) (es : List S56) (hn : ns.length ≤ 2097152) (hm : es.length ≤ 2097152) : ∀ (d k : Nat) (a : Nat), a + d = 8 → ns.length + es.length + d < k →
    spec_GraphOk.l2 k a ns es = some ((List.range d).all fun j => decide (cN ((a + j : Nat) : Int) ns ≤ 5) && decide (cE ((a + j : Nat) : Int) es ≤ 7)) := by
  intro d
  induction d with
  | zero =>
    intro k a hd hk
    obtain ⟨k, rfl⟩ : ∃ m, k = m + 1 := ⟨k - 1, by omega⟩
    simp only [spec_GraphOk.l2]
    rw [if_neg (by omega)]; rfl
  | succ d ih =>
    intro k a hd hk
    obtain ⟨k, rfl⟩ : ∃ m, k = m + 1 := ⟨k - 1, by omega⟩
    simp only [spec_GraphOk.l2]
    have n0 : spec_l2Nodes.f k ns es a = some ((cN a ns : Nat) : Int) := by
      have := cntN_l0 ns es hn a ns.length k 0 0 (by omega) (by omega) (by omega)
      simpa [spec_l2Nodes.f] using this
    have e0 : spec_l2Edges.f k ns es a = some ((cE a es : Nat) : Int) := by
      have := cntE_l0 ns es hm a es.length k 0 0 (by omega) (by omega) (by omega)
      simpa [spec_l2Edges.f] using this
    rw [if_pos (by omega), n0, e0, List.range_succ_eq_map, List.all_cons, List.all_map]
    simp only [Option.bind_some, Nat.add_zero]
    have r := ih k (a + 1) (by omega) (by omega)
    rw [w64 (x := (a : Int) + 1) (by omega), show (a : Int) + 1 = ((a + 1 : Nat) : Int) by omega, r]
    have f : ((fun j : Nat => decide (cN ((a + j : Nat) : Int) ns ≤ 5) && decide (cE ((a + j : Nat) : Int) es ≤ 7)) ∘ Nat.succ) = fun j : Nat => decide (cN ((a + 1 + j : Nat) : Int) ns ≤ 5) && decide (cE ((a + 1 + j : Nat) : Int) es ≤ 7) := by
      funext j; simp only [Function.comp_def, show a + Nat.succ j = a + 1 + j by omega]
    rw [f]
    by_cases c1 : (cN a ns : Int) > 5
    · rw [if_pos c1]; simp only [show ¬ cN a ns ≤ 5 by omega, decide_false, Bool.false_and]
    · rw [if_neg c1]
      by_cases c2 : (cE a es : Int) > 7
      · rw [if_pos c2]; simp only [show ¬ cE a es ≤ 7 by omega, decide_false, Bool.and_false, Bool.false_and]
      · rw [if_neg c2]; simp only [show cN a ns ≤ 5 by omega, show cE a es ≤ 7 by omega, decide_true, Bool.true_and]
/-- A graph is right. -/
def GOk (ns : List S36) (es : List S56) : Bool := Asc ns (-1) && (EAsc ns es none && Few ns es)
theorem Few_len {ns : List S36} {es : List S56} (h : Few ns es = true) (h1 : Asc ns (-1) = true) : ns.length ≤ 40 := by
  have hl := len_sum ns (fun x hx => by have := nOk_iff.1 (Asc_ok ns (-1) (by omega) h1 x hx).1; omega)
  have q : ∀ a : Nat, a < 8 → cN a ns ≤ 5 := fun a ha => by
    have := List.all_eq_true.1 h a (List.mem_range.2 ha)
    simp at this; exact this.1
  have q0 := q 0 (by omega); have q1 := q 1 (by omega); have q2 := q 2 (by omega); have q3 := q 3 (by omega)
  have q4 := q 4 (by omega); have q5 := q 5 (by omega); have q6 := q 6 (by omega); have q7 := q 7 (by omega)
  simp at q0 q1 q2 q3 q4 q5 q6 q7
  omega
theorem EAsc_ok (ns : List S36) : ∀ (es : List S56) (p : Option S56), EAsc ns es p = true → ∀ e ∈ es, Eo e = true
  | [], _, _, x, hx => by cases hx
  | y :: es, p, h, x, hx => by
    simp only [EAsc, Bool.and_eq_true] at h
    rcases List.mem_cons.1 hx with rfl | hx
    · exact h.1
    · exact EAsc_ok ns es _ h.2.2.2.2 x hx
theorem Few_lenE {ns : List S36} {es : List S56} (h : Few ns es = true) (h1 : EAsc ns es none = true) : es.length ≤ 56 := by
  have hl := len_sumE es (fun x hx => (Eo_iff.1 (EAsc_ok ns es none h1 x hx)).1)
  have q : ∀ a : Nat, a < 8 → cE a es ≤ 7 := fun a ha => by
    have := List.all_eq_true.1 h a (List.mem_range.2 ha)
    simp at this; exact this.2
  have q0 := q 0 (by omega); have q1 := q 1 (by omega); have q2 := q 2 (by omega); have q3 := q 3 (by omega)
  have q4 := q 4 (by omega); have q5 := q 5 (by omega); have q6 := q 6 (by omega); have q7 := q 7 (by omega)
  simp at q0 q1 q2 q3 q4 q5 q6 q7
  omega
theorem sGraphOk_ok (ns : List S36) (es : List S56) (hn : ns.length ≤ 2097152) (hm : es.length ≤ 2097152) (k : Nat) (hk : 2 * ns.length + 2 * es.length + 100 < k) : spec_GraphOk.f k ns es = some (GOk ns es) := by
  have h2 : ∀ q, ns.length + es.length + 10 ≤ q → spec_GraphOk.l2 q 0 ns es = some (Few ns es) := by
    intro q hq
    have := specC_l2 ns es hn hm 8 q 0 (by omega) (by omega)
    simpa [Few] using this
  have h1 : ∀ q, ns.length + 2 * es.length + 20 ≤ q → spec_GraphOk.l1 q 0 ns es = some (EAsc ns es none && (decide (es.length ≤ 56) && Few ns es)) := by
    intro q hq
    have := specE_l1 ns es hn hm _ (ns.length + es.length + 10) (by omega) h2 es.length q 0 none (by omega) (by omega) (.inl ⟨rfl, rfl⟩) (by omega)
    rw [List.drop_zero] at this
    rw [show ((0 : Nat) : Int) = 0 from rfl] at this
    rw [this]
    cases EAsc ns es none <;> cases decide (es.length ≤ 56) <;> rfl
  have h0 := specN_l0 ns es hn _ (ns.length + 2 * es.length + 20) h1 ns.length k 0 (-1) (by omega) (by omega) (.inl ⟨rfl, rfl⟩) (by omega)
  rw [List.drop_zero] at h0
  rw [show ((0 : Nat) : Int) = 0 from rfl] at h0
  unfold spec_GraphOk.f GOk
  rw [h0]
  cases c1 : Asc ns (-1)
  · rfl
  · cases c2 : EAsc ns es none
    · simp
    · cases c3 : Few ns es
      · simp
      · have l1 := Few_len c3 c1
        have l2 := Few_lenE c3 c2
        simp [l1, l2]
/-- Edges as the program goes through them. -/
def ER (ns : List S36) : List S56 → Option S56 → List Int → Bool
  | [], _, _ => true
  | e :: es, p, m => if Eo e = true then (if rd m e.f0 = 7 then false else if (match p with | some p => Lt p e | none => true) = true then (if In ns e.f1.f0 e.f1.f1 = true then (if In ns e.f2.f0 e.f2.f1 = true then ER ns es (some e) (m.set e.f0.toNat (wrap64 (rd m e.f0 + 1))) else false) else false) else false) else false
theorem ER_eq (ns : List S36) : ∀ (es : List S56) (p : Option S56) (m : List Int), m.length = 8 → (∀ a : Nat, a < 8 → 0 ≤ rd m a ∧ rd m a ≤ 7) →
    ER ns es p m = (EAsc ns es p && (List.range 8).all fun a => decide (rd m a + cE a es ≤ 7))
  | [], p, m, hl, hm => by
    have : ((List.range 8).all fun a => decide (rd m a + cE a ([] : List S56) ≤ 7)) = true := by
      rw [List.all_eq_true]
      intro a ha
      have := hm a (List.mem_range.1 ha)
      simp [cE]; omega
    rw [this]; rfl
  | x :: xs, p, m, hl, hm => by
    simp only [ER, EAsc]
    by_cases c : Eo x = true
    · rw [if_pos c]
      obtain ⟨⟨e2, e3⟩, _⟩ := Eo_iff.1 c
      obtain ⟨j, hj⟩ := Int.eq_ofNat_of_zero_le e2
      have hj8 : j < 8 := by omega
      have hmj := hm j hj8
      by_cases c2 : rd m x.f0 = 7
      · rw [if_pos c2]
        have : ((List.range 8).all fun a => decide (rd m a + cE a (x :: xs) ≤ 7)) = false := by
          rw [List.all_eq_false]
          refine ⟨j, List.mem_range.2 hj8, ?_⟩
          have : 1 ≤ cE (j : Int) (x :: xs) := by simp [cE, hj]
          rw [hj] at c2
          simp; omega
        rw [this, Bool.and_false]
      · rw [if_neg c2, w64 (x := rd m x.f0 + 1) (by rw [hj]; omega)]
        have hr : ∀ a : Nat, a < 8 → rd (m.set x.f0.toNat (rd m x.f0 + 1)) a = if a = j then rd m a + 1 else rd m a := by
          intro a ha
          rw [hj, Int.toNat_natCast]
          unfold rd
          simp only [Int.toNat_natCast, List.getD_eq_getElem?_getD, List.getElem?_set]
          by_cases q : j = a
          · subst q; simp [hl, hj8]
          · rw [if_neg q, if_neg (fun h => q h.symm)]
        have c2' : rd m (j : Int) ≠ 7 := by rw [← hj]; exact c2
        rw [ER_eq ns xs (some x) _ (by simpa using hl) (fun a ha => by
          rw [hr a ha]; have := hm a ha; split
          · rename_i q; subst q; omega
          · omega)]
        have hc : ((List.range 8).all fun a => decide (rd (m.set x.f0.toNat (rd m x.f0 + 1)) a + cE a xs ≤ 7)) = (List.range 8).all fun a => decide (rd m a + cE a (x :: xs) ≤ 7) := by
          apply Bool.eq_iff_iff.2
          rw [List.all_eq_true, List.all_eq_true]
          have hc : ∀ a : Nat, a < 8 → (rd (m.set x.f0.toNat (rd m x.f0 + 1)) a + cE a xs = rd m a + cE a (x :: xs)) := by
            intro a ha
            rw [hr a ha, cE_cons]
            by_cases q : a = j
            · subst q; rw [if_pos rfl, if_pos hj]; omega
            · rw [if_neg q, if_neg (by rw [hj]; omega)]; omega
          constructor
          · intro h a ha; have := h a ha; have e := hc a (List.mem_range.1 ha); simp at this ⊢; omega
          · intro h a ha; have := h a ha; have e := hc a (List.mem_range.1 ha); simp at this ⊢; omega
        rw [hc]
        simp only [c, Bool.true_and]
        cases (match p with | some p => Lt p x | none => true) <;> cases In ns x.f1.f0 x.f1.f1 <;> cases In ns x.f2.f0 x.f2.f1 <;> simp
    · rw [if_neg c]
      simp only [Bool.not_eq_true] at c
      simp only [c, Bool.false_and]
theorem Cmp_ok (a b : Int) : cmp_Compare_int.f a b = some (if a < b then -1 else if a > b then 1 else 0) := by
  unfold cmp_Compare_int.f cmp_isNaN_int.f
  simp only [Option.bind_some, bne_self_eq_false, Bool.false_eq_true, if_false]
  split
  · rfl
  · split <;> rfl
theorem Or_ok (x y z : Int) (k : Nat) (hk : 5 ≤ k) : cmp_Or_int.f k [x, y, z] = some (if x ≠ 0 then x else if y ≠ 0 then y else z) := by
  obtain ⟨k, rfl⟩ : ∃ m, k = m + 5 := ⟨k - 5, by omega⟩
  have w1 : wrap64 (0 + 1) = 1 := by decide +kernel
  have w2 : wrap64 (1 + 1) = 2 := by decide +kernel
  have w3 : wrap64 (2 + 1) = 3 := by decide +kernel
  unfold cmp_Or_int.f
  simp only [cmp_Or_int.l0, List.length_cons, List.length_nil]
  simp only [rd, w1, w2, w3]
  by_cases c1 : x = 0
  · by_cases c2 : y = 0
    · by_cases c3 : z = 0
      · simp [c1, c2, c3, w1, w2, w3]
      · simp [c1, c2, c3, w1, w2, w3]
    · simp [c1, c2, w1, w2, w3]
  · simp [c1, w1]
theorem order_ok {p e : S56} (hp : Eo p = true) (he : Eo e = true) (k : Nat) (hk : 5 ≤ k) : ∃ t, impl_edgeOrder.f k p.f0 p.f1.f0 p.f1.f1 p.f2.f0 p.f2.f1 e.f0 e.f1.f0 e.f1.f1 e.f2.f0 e.f2.f1 = some t ∧ decide (t ≥ 0) = !Lt p e := by
  obtain ⟨_, p1, p2, _⟩ := Eo_iff.1 hp
  obtain ⟨_, e1, e2, _⟩ := Eo_iff.1 he
  have cd : ∀ {a b : Int}, nOk a b = true → Cd a b = 64 * a + b := fun h => by unfold Cd; rw [if_pos h]
  have inj := Cd_inj p1 e1
  unfold impl_edgeOrder.f
  simp only [Cmp_ok, iO, Option.bind_some, Or_ok _ _ _ k hk]
  refine ⟨_, rfl, ?_⟩
  unfold Lt oN
  rw [cd p1, cd p2, cd e1, cd e2]
  by_cases c : p.f0 = e.f0
  · rw [if_pos c]
    rw [c]
    simp only [Int.lt_irrefl, if_false, gt_iff_lt, ne_eq, not_true_eq_false]
    by_cases c2 : p.f1.f0 = e.f1.f0 ∧ p.f1.f1 = e.f1.f1
    · rw [if_pos c2]
      have := inj.2 c2
      rw [this]
      simp only [Int.lt_irrefl, if_false, not_true_eq_false]
      by_cases q : 64 * p.f2.f0 + p.f2.f1 < 64 * e.f2.f0 + e.f2.f1
      · simp [q]
      · by_cases q2 : 64 * e.f2.f0 + e.f2.f1 < 64 * p.f2.f0 + p.f2.f1
        · simp [q, q2]
        · simp [q, q2]
    · rw [if_neg c2]
      have hne : 64 * p.f1.f0 + p.f1.f1 ≠ 64 * e.f1.f0 + e.f1.f1 := fun h => c2 (inj.1 h)
      by_cases q : 64 * p.f1.f0 + p.f1.f1 < 64 * e.f1.f0 + e.f1.f1
      · simp [q]
      · have q2 : 64 * e.f1.f0 + e.f1.f1 < 64 * p.f1.f0 + p.f1.f1 := by omega
        simp [q, q2]
  · rw [if_neg c]
    by_cases q : p.f0 < e.f0
    · simp [q]
    · have q2 : e.f0 < p.f0 := by omega
      simp [q, q2]
theorem oN_neg {a b c d : Int} : oN a b c d < 0 ↔ Cd a b < Cd c d := by
  unfold oN; split
  · simp; assumption
  · split <;> simp <;> omega
theorem oN_zero {a b c d : Int} : (oN a b c d == 0) = true ↔ Cd a b = Cd c d := by
  unfold oN; split
  · simp; omega
  · split <;> simp <;> omega
theorem Asc_gt : ∀ (xs : List S36) (last : Int), Asc xs last = true → ∀ x ∈ xs, last < Cd x.f0 x.f1
  | [], _, _, x, hx => by cases hx
  | y :: xs, last, h, x, hx => by
    simp only [Asc, Bool.and_eq_true, decide_eq_true_eq] at h
    rcases List.mem_cons.1 hx with rfl | hx
    · exact h.1
    · have := Asc_gt xs _ h.2 x hx
      omega
theorem Asc_mono : ∀ (xs : List S36) (last : Int), Asc xs last = true → ∀ (i j : Nat) (hi : i < j) (hj : j < xs.length), Cd (xs[i]'(by omega)).f0 (xs[i]'(by omega)).f1 < Cd (xs[j]).f0 (xs[j]).f1
  | [], _, _, i, j, hi, hj => by simp at hj
  | x :: xs, last, h, i, j, hi, hj => by
    simp only [Asc, Bool.and_eq_true, decide_eq_true_eq] at h
    cases j with
    | zero => omega
    | succ j =>
      cases i with
      | zero =>
        simp only [List.getElem_cons_zero, List.getElem_cons_succ]
        exact Asc_gt xs _ h.2 _ (List.getElem_mem _)
      | succ i =>
        simp only [List.getElem_cons_succ]
        exact Asc_mono xs _ h.2 i j (by omega) (by simpa using hj)
theorem bsf_l0 (xs : List S36) (a b : Int) (hA : Asc xs (-1) = true) (ht : nOk a b = true) : ∀ (d k : Nat) (i j : Nat), j - i ≤ d → i ≤ j → j ≤ xs.length → (∀ q (h : q < xs.length), q < i → Cd (xs[q]).f0 (xs[q]).f1 < Cd a b) → (∀ q (h : q < xs.length), j ≤ q → Cd a b ≤ Cd (xs[q]).f0 (xs[q]).f1) → d < k →
    ∃ p, impl_bsf.l0 k xs a b i j = some (p, In xs a b) := by
  intro d
  induction d with
  | zero =>
    intro k i j hd hij hj h1 h2 hk
    obtain ⟨k, rfl⟩ : ∃ m, k = m + 1 := ⟨k - 1, by omega⟩
    obtain rfl : i = j := by omega
    simp only [impl_bsf.l0]
    rw [if_neg (by omega)]
    refine ⟨i, ?_⟩
    congr 2
    apply Bool.eq_iff_iff.2
    constructor
    · intro h
      by_cases c : (i : Int) < (xs.length : Int)
      · rw [if_pos c, rdT_at (by omega)] at h
        have e := oN_zero.1 h
        have o := Asc_ok xs (-1) (by omega) hA _ (List.getElem_mem (show i < xs.length by omega))
        have := Cd_inj o.1 ht
        unfold Cd at e
        rw [if_pos o.1, if_pos ht] at e
        have e2 := this.1 e
        unfold In
        rw [List.any_eq_true]
        exact ⟨_, List.getElem_mem (show i < xs.length by omega), by simp [e2.1, e2.2]⟩
      · rw [if_neg c] at h; cases h
    · intro h
      unfold In at h
      rw [List.any_eq_true] at h
      obtain ⟨x, hx, hxe⟩ := h
      obtain ⟨q, hq, rfl⟩ := List.mem_iff_getElem.1 hx
      simp at hxe
      have e : Cd (xs[q]).f0 (xs[q]).f1 = Cd a b := by rw [hxe.1, hxe.2]
      have hqi : i ≤ q := by
        rcases Nat.lt_or_ge q i with c | c
        · have := h1 q hq c; omega
        · exact c
      have : q = i := by
        rcases Nat.lt_or_ge i q with c | c
        · have := Asc_mono xs (-1) hA i q c hq
          have := h2 i (by omega) (Nat.le_refl _)
          omega
        · omega
      subst this
      rw [if_pos (by omega), rdT_at hq]
      exact oN_zero.2 e
  | succ d ih =>
    intro k i j hd hij hj h1 h2 hk
    by_cases c : i < j
    · obtain ⟨k, rfl⟩ : ∃ m, k = m + 1 := ⟨k - 1, by omega⟩
      simp only [impl_bsf.l0]
      have hh : ((i : Int) + (j : Int)) / 2 = (((i + j) / 2 : Nat) : Int) := by omega
      have hq : (i + j) / 2 < xs.length := by omega
      rw [if_pos (by omega), hh, rdT_at hq]
      by_cases c2 : oN (xs[(i + j) / 2]).f0 (xs[(i + j) / 2]).f1 a b < 0
      · rw [if_pos c2, show (((i + j) / 2 : Nat) : Int) + 1 = (((i + j) / 2 + 1 : Nat) : Int) by omega]
        have l := oN_neg.1 c2
        refine ih k _ j (by omega) (by omega) hj (fun q h hqi => ?_) h2 (by omega)
        rcases Nat.lt_or_ge q ((i + j) / 2) with c3 | c3
        · have := Asc_mono xs (-1) hA q _ c3 hq; omega
        · obtain rfl : q = (i + j) / 2 := by omega
          exact l
      · rw [if_neg c2]
        have l : Cd a b ≤ Cd (xs[(i + j) / 2]).f0 (xs[(i + j) / 2]).f1 := by
          rcases Int.lt_or_le (Cd (xs[(i + j) / 2]).f0 (xs[(i + j) / 2]).f1) (Cd a b) with q | q
          · exact absurd (oN_neg.2 q) c2
          · exact q
        refine ih k i _ (by omega) (by omega) (by omega) h1 (fun q h hqi => ?_) (by omega)
        rcases Nat.lt_or_ge ((i + j) / 2) q with c3 | c3
        · have := Asc_mono xs (-1) hA _ q c3 h; omega
        · obtain rfl : q = (i + j) / 2 := by omega
          exact l
    · exact ih k i j (by omega) hij hj h1 h2 (by omega)
theorem there_ok (xs : List S36) (a b : Int) (hA : Asc xs (-1) = true) (ht : nOk a b = true) (k : Nat) (hk : xs.length < k) : impl_nodeThere.f k xs a b = some (In xs a b) := by
  obtain ⟨p, hp⟩ := bsf_l0 xs a b hA ht xs.length k 0 xs.length (by omega) (by omega) (by omega) (fun q h hq => by omega) (fun q h hq => by omega) hk
  unfold impl_nodeThere.f impl_bsf.f
  rw [show ((0 : Nat) : Int) = 0 from rfl] at hp
  rw [hp]; rfl
/-- The edges' part of the program's function, where the nodes ascend. -/
theorem edgesOk_l0 (es : List S56) (ns : List S36) (hm : es.length ≤ 2097152) (hA : Asc ns (-1) = true) : ∀ (d k : Nat) (i : Nat) (p : Option S56) (m : List Int), i + d = es.length →
    (i = 0 ∧ p = none ∨ 0 < i ∧ ∃ h : i - 1 < es.length, Eo (es[i - 1]) = true ∧ p = some (es[i - 1])) → ns.length + d + 10 < k → impl_edgesOk.l0 k es ns m i = some (ER ns (es.drop i) p m) := by
  intro d
  induction d with
  | zero =>
    intro k i p m hd hl hk
    obtain ⟨k, rfl⟩ : ∃ m, k = m + 1 := ⟨k - 1, by omega⟩
    simp only [impl_edgesOk.l0]
    rw [if_neg (by omega), List.drop_of_length_le (by omega)]; rfl
  | succ d ih =>
    intro k i p m hd hl hk
    obtain ⟨k, rfl⟩ : ∃ m, k = m + 1 := ⟨k - 1, by omega⟩
    have hi : i < es.length := by omega
    simp only [impl_edgesOk.l0]
    rw [if_pos (by omega), if_pos (by omega), rdE_at hi, List.drop_eq_getElem_cons hi]
    simp only [ER]
    have eEo : EOk (es[i]).f0 (es[i]).f1.f0 (es[i]).f1.f1 (es[i]).f2.f0 (es[i]).f2.f1 = Eo es[i] := rfl
    rw [eEo]
    by_cases c : Eo es[i] = true
    · rw [if_pos c, if_pos c]
      obtain ⟨_, c1, c2, _⟩ := Eo_iff.1 c
      by_cases c7 : rd m (es[i]).f0 = 7
      · rw [if_pos c7, if_pos c7]
      · rw [if_neg c7, if_neg c7]
        simp only [there_ok ns _ _ hA c1 k (by omega), there_ok ns _ _ hA c2 k (by omega), Option.bind_some]
        have ih' := ih k (i + 1) (some es[i]) (m.set ((es[i]).f0).toNat (wrap64 (rd m (es[i]).f0 + 1))) (by omega) (.inr ⟨by omega, by simpa using hi, by simpa using c, by simp⟩) (by omega)
        rw [show ((i + 1 : Nat) : Int) = (i : Int) + 1 by omega] at ih'
        rw [w64 (x := (i : Int) + 1) (by omega), ih']
        have fin : (if In ns (es[i]).f1.f0 (es[i]).f1.f1 = true then (if In ns (es[i]).f2.f0 (es[i]).f2.f1 = true then some (ER ns (es.drop (i + 1)) (some es[i]) (m.set ((es[i]).f0).toNat (wrap64 (rd m (es[i]).f0 + 1)))) else some false) else some false) =
            some (if In ns (es[i]).f1.f0 (es[i]).f1.f1 = true then (if In ns (es[i]).f2.f0 (es[i]).f2.f1 = true then ER ns (es.drop (i + 1)) (some es[i]) (m.set ((es[i]).f0).toNat (wrap64 (rd m (es[i]).f0 + 1))) else false) else false) := by
          split
          · split <;> rfl
          · rfl
        rcases hl with ⟨h0, rfl⟩ | ⟨h0, h1, h2, rfl⟩
        · rw [if_neg (by omega), fin]; rfl
        · rw [if_pos (by omega), w64 (x := (i : Int) - 1) (by omega), if_pos (by omega), if_pos (by omega), show (i : Int) - 1 = ((i - 1 : Nat) : Int) by omega, rdE_at h1]
          obtain ⟨t, ht, hts⟩ := order_ok h2 c k (by omega)
          rw [ht]
          simp only [Option.bind_some]
          by_cases c3 : Lt es[i - 1] es[i] = true
          · rw [if_pos c3, if_neg (fun h => by rw [decide_eq_true h, c3] at hts; cases hts), fin]
          · rw [if_neg c3]
            rw [if_pos (by
              simp only [Bool.not_eq_true] at c3
              rw [c3] at hts
              simpa using hts)]
    · rw [if_neg c, if_neg c]
theorem iGraphOk_ok (ns : List S36) (es : List S56) (hn : ns.length ≤ 2097152) (hm : es.length ≤ 2097152) (k : Nat) (hk : 2 * ns.length + 2 * es.length + 100 < k) : impl_GraphOk.f k ns es = some (GOk ns es) := by
  have z : ∀ a : Nat, a < 8 → rd ([0, 0, 0, 0, 0, 0, 0, 0] : List Int) a = 0 := by
    intro a ha
    unfold rd
    rw [Int.toNat_natCast]
    rcases (show a = 0 ∨ a = 1 ∨ a = 2 ∨ a = 3 ∨ a = 4 ∨ a = 5 ∨ a = 6 ∨ a = 7 by omega) with rfl | rfl | rfl | rfl | rfl | rfl | rfl | rfl <;> rfl
  have h0 := nodesOk_l0 ns hn ns.length k 0 (-1) [0, 0, 0, 0, 0, 0, 0, 0] (by omega) (by omega)
  rw [List.drop_zero, show ((0 : Nat) : Int) = 0 from rfl, NR_eq ns (-1) _ (by omega) (by rfl) (fun a ha => by rw [z a ha]; omega)] at h0
  unfold impl_GraphOk.f impl_nodesOk.f impl_edgesOk.f GOk
  rw [h0]
  simp only [Option.bind_some]
  cases c1 : Asc ns (-1)
  · rfl
  · have h1 := edgesOk_l0 es ns hm c1 es.length k 0 none [0, 0, 0, 0, 0, 0, 0, 0] (by omega) (.inl ⟨rfl, rfl⟩) (by omega)
    rw [List.drop_zero, show ((0 : Nat) : Int) = 0 from rfl, ER_eq ns es none _ (by rfl) (fun a ha => by rw [z a ha]; omega)] at h1
    rw [h1]
    have q1 : ((List.range 8).all fun a => decide (rd ([0, 0, 0, 0, 0, 0, 0, 0] : List Int) a + cN a ns ≤ 5)) = (List.range 8).all fun a => decide (cN a ns ≤ 5) := by
      apply Bool.eq_iff_iff.2
      rw [List.all_eq_true, List.all_eq_true]
      constructor <;> intro h a ha <;> have := h a ha <;> have e := z a (List.mem_range.1 ha) <;> simp [e] at this ⊢ <;> omega
    have q2 : ((List.range 8).all fun a => decide (rd ([0, 0, 0, 0, 0, 0, 0, 0] : List Int) a + cE a es ≤ 7)) = (List.range 8).all fun a => decide (cE a es ≤ 7) := by
      apply Bool.eq_iff_iff.2
      rw [List.all_eq_true, List.all_eq_true]
      constructor <;> intro h a ha <;> have := h a ha <;> have e := z a (List.mem_range.1 ha) <;> simp [e] at this ⊢ <;> omega
    have q3 : Few ns es = (((List.range 8).all fun a => decide (cN a ns ≤ 5)) && ((List.range 8).all fun a => decide (cE a es ≤ 7))) := by
      unfold Few
      apply Bool.eq_iff_iff.2
      simp only [Bool.and_eq_true, List.all_eq_true]
      exact ⟨fun h => ⟨fun a ha => (h a ha).1, fun a ha => (h a ha).2⟩, fun h a ha => ⟨h.1 a ha, h.2 a ha⟩⟩
    rw [q1, q2, q3]
    cases ((List.range 8).all fun a => decide (cN a ns ≤ 5)) <;> cases ((List.range 8).all fun a => decide (cE a es ≤ 7)) <;> cases EAsc ns es none <;> rfl

/-- What is seen. -/
def vN (c : Int) (xs : List S36) : List S36 := xs.filter fun x => U x.f0 c
def vE (c : Int) (xs : List S56) : List S56 := xs.filter fun x => U x.f0 c
theorem vN_pos {c : Int} {x : S36} (h : U x.f0 c = true) (xs : List S36) : vN c (x :: xs) = x :: vN c xs := by simp [vN, h]
theorem vN_neg {c : Int} {x : S36} (h : ¬ U x.f0 c = true) (xs : List S36) : vN c (x :: xs) = vN c xs := by simp [vN, h]
theorem vE_pos {c : Int} {x : S56} (h : U x.f0 c = true) (xs : List S56) : vE c (x :: xs) = x :: vE c xs := by simp [vE, h]
theorem vE_neg {c : Int} {x : S56} (h : ¬ U x.f0 c = true) (xs : List S56) : vE c (x :: xs) = vE c xs := by simp [vE, h]
theorem ivE (c : Int) (ns : List S36) (es : List S56) (hm : es.length ≤ 2097152) : ∀ (d k i : Nat) (out : List S56), i + d = es.length → out.length ≤ i → d < k → impl_GraphView.l1 k c es es.length i ns out = some (ns, out ++ vE c (es.drop i)) := by
  intro d
  induction d with
  | zero =>
    intro k i out hd ho hk
    obtain ⟨k, rfl⟩ : ∃ m, k = m + 1 := ⟨k - 1, by omega⟩
    simp only [impl_GraphView.l1]
    rw [if_neg (by omega), List.drop_of_length_le (by omega)]; simp [vE]
  | succ d ih =>
    intro k i out hd ho hk
    obtain ⟨k, rfl⟩ : ∃ m, k = m + 1 := ⟨k - 1, by omega⟩
    have hi : i < es.length := by omega
    simp only [impl_GraphView.l1]
    rw [if_pos (by omega), if_pos (by omega), if_pos (by omega), rdE_at hi, iU, List.drop_eq_getElem_cons hi, w64 (x := (i : Int) + 1) (by omega), show (i : Int) + 1 = ((i + 1 : Nat) : Int) by omega]
    simp only [Option.bind_some]
    by_cases c1 : U (es[i]).f0 c = true
    · rw [if_pos c1, if_pos (by omega), ih k (i + 1) _ (by omega) (by simp; omega) (by omega)]
      rw [vE_pos c1, List.append_assoc]; rfl
    · rw [if_neg c1, ih k (i + 1) out (by omega) (by omega) (by omega)]
      rw [vE_neg c1]
theorem ivN (c : Int) (ns : List S36) (es : List S56) (hn : ns.length ≤ 2097152) (hm : es.length ≤ 2097152) : ∀ (d k i : Nat) (out : List S36), i + d = ns.length → out.length ≤ i → d + es.length + 2 < k → impl_GraphView.l0 k c ns ns.length i ns es out = some (out ++ vN c (ns.drop i), vE c es) := by
  intro d
  induction d with
  | zero =>
    intro k i out hd ho hk
    obtain ⟨k, rfl⟩ : ∃ m, k = m + 1 := ⟨k - 1, by omega⟩
    simp only [impl_GraphView.l0]
    rw [if_neg (by omega), List.drop_of_length_le (by omega)]
    have := ivE c out es hm es.length k 0 [] (by omega) (by simp) (by omega)
    simp at this
    rw [this]; simp [vN]
  | succ d ih =>
    intro k i out hd ho hk
    obtain ⟨k, rfl⟩ : ∃ m, k = m + 1 := ⟨k - 1, by omega⟩
    have hi : i < ns.length := by omega
    simp only [impl_GraphView.l0]
    rw [if_pos (by omega), if_pos (by omega), if_pos (by omega), rdT_at hi, iU, List.drop_eq_getElem_cons hi, w64 (x := (i : Int) + 1) (by omega), show (i : Int) + 1 = ((i + 1 : Nat) : Int) by omega]
    simp only [Option.bind_some]
    by_cases c1 : U (ns[i]).f0 c = true
    · rw [if_pos c1, if_pos (by omega), ih k (i + 1) _ (by omega) (by simp; omega) (by omega)]
      rw [vN_pos c1, List.append_assoc]; rfl
    · rw [if_neg c1, ih k (i + 1) out (by omega) (by omega) (by omega)]
      rw [vN_neg c1]
theorem svE (c : Int) (hc : isL c = true) (ns : List S36) (es : List S56) (hm : es.length ≤ 2097152) (hl : ∀ e ∈ es, isL e.f0 = true) (on_ : List S36) : ∀ (d k i : Nat) (out : List S56), i + d = es.length → out.length ≤ i → d + 12 < k → spec_l2View.l1 k c i ns es on_ out = some (on_, out ++ vE c (es.drop i)) := by
  intro d
  induction d with
  | zero =>
    intro k i out hd ho hk
    obtain ⟨k, rfl⟩ : ∃ m, k = m + 1 := ⟨k - 1, by omega⟩
    simp only [spec_l2View.l1]
    rw [if_neg (by omega), List.drop_of_length_le (by omega)]; simp [vE]
  | succ d ih =>
    intro k i out hd ho hk
    obtain ⟨k, rfl⟩ : ∃ m, k = m + 1 := ⟨k - 1, by omega⟩
    have hi : i < es.length := by omega
    simp only [spec_l2View.l1]
    have u := Go.Proofs.YtohmemckdogljaaW.PrintWords.at_rounds (g := fun k => spec_l1Under.f k (es[i]).f0 c) (fun k => spec_l1Under.mono _ _ k) (show 10 ≤ k by omega) (sU (hl _ (List.getElem_mem hi)) hc)
    rw [if_pos (by omega), if_pos (by omega), rdE_at hi, u, List.drop_eq_getElem_cons hi, w64 (x := (i : Int) + 1) (by omega), show (i : Int) + 1 = ((i + 1 : Nat) : Int) by omega]
    simp only [Option.bind_some]
    by_cases c1 : U (es[i]).f0 c = true
    · rw [if_pos c1, if_pos (by omega), ih k (i + 1) _ (by omega) (by simp; omega) (by omega)]
      rw [vE_pos c1, List.append_assoc]; rfl
    · rw [if_neg c1, ih k (i + 1) out (by omega) (by omega) (by omega)]
      rw [vE_neg c1]
theorem svN (c : Int) (hc : isL c = true) (ns : List S36) (es : List S56) (hn : ns.length ≤ 2097152) (hm : es.length ≤ 2097152) (hl : ∀ e ∈ ns, isL e.f0 = true) (hl2 : ∀ e ∈ es, isL e.f0 = true) : ∀ (d k i : Nat) (out : List S36), i + d = ns.length → out.length ≤ i → d + es.length + 14 < k → spec_l2View.l0 k c i ns es out [] = some (out ++ vN c (ns.drop i), vE c es) := by
  intro d
  induction d with
  | zero =>
    intro k i out hd ho hk
    obtain ⟨k, rfl⟩ : ∃ m, k = m + 1 := ⟨k - 1, by omega⟩
    simp only [spec_l2View.l0]
    rw [if_neg (by omega), List.drop_of_length_le (by omega)]
    have := svE c hc ns es hm hl2 out es.length k 0 [] (by omega) (by simp) (by omega)
    simp at this
    rw [this]; simp [vN]
  | succ d ih =>
    intro k i out hd ho hk
    obtain ⟨k, rfl⟩ : ∃ m, k = m + 1 := ⟨k - 1, by omega⟩
    have hi : i < ns.length := by omega
    simp only [spec_l2View.l0]
    have u := Go.Proofs.YtohmemckdogljaaW.PrintWords.at_rounds (g := fun k => spec_l1Under.f k (ns[i]).f0 c) (fun k => spec_l1Under.mono _ _ k) (show 10 ≤ k by omega) (sU (hl _ (List.getElem_mem hi)) hc)
    rw [if_pos (by omega), if_pos (by omega), rdT_at hi, u, List.drop_eq_getElem_cons hi, w64 (x := (i : Int) + 1) (by omega), show (i : Int) + 1 = ((i + 1 : Nat) : Int) by omega]
    simp only [Option.bind_some]
    by_cases c1 : U (ns[i]).f0 c = true
    · rw [if_pos c1, if_pos (by omega), ih k (i + 1) _ (by omega) (by simp; omega) (by omega)]
      rw [vN_pos c1, List.append_assoc]; rfl
    · rw [if_neg c1, ih k (i + 1) out (by omega) (by omega) (by omega)]
      rw [vN_neg c1]
/-- A graph's view. -/
def GV (ns : List S36) (es : List S56) (c : Int) : List S36 × List S56 := if GOk ns es = true then (vN c ns, vE c es) else ([], [])
theorem iGV (ns : List S36) (es : List S56) (c : Int) (hn : ns.length ≤ 2097152) (hm : es.length ≤ 2097152) (k : Nat) (hk : 2 * ns.length + 2 * es.length + 200 < k) : impl_GraphView.f k ns es c = some (GV ns es c) := by
  unfold impl_GraphView.f GV
  rw [iGraphOk_ok ns es hn hm k (by omega)]
  simp only [Option.bind_some]
  by_cases h : GOk ns es = true
  · rw [if_pos h, if_pos h]
    have := ivN c ns es hn hm ns.length k 0 [] (by omega) (by simp) (by omega)
    simpa using this
  · rw [if_neg h, if_neg h]
theorem vN_bent {c : Int} (hc : ¬ isL c = true) (ns : List S36) : vN c ns = [] := by
  simp [vN, U, hc]
theorem vE_bent {c : Int} (hc : ¬ isL c = true) (es : List S56) : vE c es = [] := by
  simp [vE, U, hc]
theorem sGV (ns : List S36) (es : List S56) (c : Int) (hn : ns.length ≤ 2097152) (hm : es.length ≤ 2097152) (k : Nat) (hk : 2 * ns.length + 2 * es.length + 200 < k) : spec_GraphView.f k ns es c = some (GV ns es c) := by
  unfold spec_GraphView.f GV
  rw [sGraphOk_ok ns es hn hm k (by omega)]
  simp only [Option.bind_some]
  by_cases h : GOk ns es = true
  · rw [if_pos h, if_pos h, sIs]
    simp only [Option.bind_some]
    have h2 := h
    simp only [GOk, Bool.and_eq_true] at h2
    by_cases hc : isL c = true
    · rw [if_pos hc]
      have := svN c hc ns es hn hm (fun x hx => nOk_l (Asc_ok ns (-1) (by omega) h2.1 x hx).1) (fun x hx => by have := (Eo_iff.1 (EAsc_ok ns es none h2.2.1 x hx)).1; simp [isL]; omega) ns.length k 0 [] (by omega) (by simp) (by omega)
      unfold spec_l2View.f
      simp at this
      rw [this]; rfl
    · rw [if_neg hc, vN_bent hc, vE_bent hc]
  · rw [if_neg h, if_neg h]
theorem GV_len (ns : List S36) (es : List S56) (c : Int) : (GV ns es c).1.length ≤ ns.length ∧ (GV ns es c).2.length ≤ es.length := by
  unfold GV
  split
  · exact ⟨List.length_filter_le _ _, List.length_filter_le _ _⟩
  · simp

theorem w64 {x : Int} (h : -9223372036854775808 ≤ x ∧ x ≤ 9223372036854775807) : wrap64 x = x := by unfold wrap64; omega
theorem rdB {b : List Int} (hb : ∀ x ∈ b, 0 ≤ x ∧ x ≤ 255) (i : Int) : 0 ≤ rd b i ∧ rd b i ≤ 255 := by
  unfold rd
  rw [List.getD_eq_getElem?_getD]
  cases h : b[i.toNat]? with
  | none => simp
  | some v => exact hb v (List.mem_of_getElem? h)
theorem u8B {l : List Int} (h : ∀ x ∈ l, (Lit.int .u8 x).wf = true) : ∀ x ∈ l, 0 ≤ x ∧ x ≤ 255 := fun x hx => by
  have := h x hx
  simp [Lit.wf, IntKind.min, IntKind.max, IntKind.signed, IntKind.bits] at this
  omega

theorem xor_nn {x y : Int} (hx : 0 ≤ x) (hx1 : x < 4611686018427387904) (hy : 0 ≤ y) (hy1 : y < 4611686018427387904) : 0 ≤ Go.bits .xor .i64 x y := by
  obtain ⟨a, rfl⟩ := Int.eq_ofNat_of_zero_le hx
  obtain ⟨b, rfl⟩ := Int.eq_ofNat_of_zero_le hy
  have ha : a < 2 ^ 62 := by omega
  have hb : b < 2 ^ 62 := by omega
  have hab : a ^^^ b < 2 ^ 62 := Nat.xor_lt_two_pow ha hb
  have ea : a % 2 ^ IntKind.i64.bits = a := Nat.mod_eq_of_lt (by simp [IntKind.bits]; omega)
  have eb : b % 2 ^ IntKind.i64.bits = b := Nat.mod_eq_of_lt (by simp [IntKind.bits]; omega)
  simp only [Go.bits, BitVec.ofInt_natCast, BitVec.toNat_xor, BitVec.toNat_ofNat, ea, eb]
  rw [IntKind.wrap_i64]
  omega

theorem pick_ok (k : Nat) (hk : 1 ≤ k) (b : List Int) (p n : Int) (hb : ∀ x ∈ b, 0 ≤ x ∧ x ≤ 255) (hp0 : 0 ≤ p) (hp : p ≤ 1000000) (hn : 1 ≤ n) :
    ∃ v, spec_l9Rd_pick.f k b p n = some (v, p + 1) ∧ 0 ≤ v ∧ v < n := by
  obtain ⟨k, rfl⟩ : ∃ m, k = m + 1 := ⟨k - 1, by omega⟩
  have w1 : wrap64 (p + 1) = p + 1 := w64 (by omega)
  have w2 : wrap64 (p + 1 - 1) = p := by rw [Int.add_sub_cancel]; exact w64 (by omega)
  unfold spec_l9Rd_pick.f
  rw [if_neg (by omega), w1]
  by_cases he : (b.length : Int) = 0
  · rw [show ((b.length : Int) == 0) = true by simpa using he]
    exact ⟨0, by simp [spec_l9Rd_pick.j0], by omega, by omega⟩
  · rw [show ((b.length : Int) == 0) = false by simpa using he]
    simp only [spec_l9Rd_pick.j0, w2]
    rw [if_neg (by decide)]
    by_cases h1 : p < (b.length : Int)
    · rw [if_pos h1, if_pos hp0, if_neg (by omega), w64 (x := rd b p) (by have := rdB hb p; omega)]
      exact ⟨_, rfl, Int.tmod_nonneg _ (rdB hb p).1, Int.tmod_lt_of_pos _ (by omega)⟩
    · have hl : (0 : Int) < b.length := by omega
      rw [if_neg h1, if_neg he]
      have m0 : 0 ≤ Int.tmod p b.length := Int.tmod_nonneg _ hp0
      have m1 : Int.tmod p b.length < b.length := Int.tmod_lt_of_pos _ hl
      have w3 : wrap64 (wrap64 (p * 7) + 3) = p * 7 + 3 := by rw [w64 (x := p * 7) (by omega)]; exact w64 (by omega)
      have m2 : 0 ≤ Int.tmod (p * 7 + 3) b.length := Int.tmod_nonneg _ (by omega)
      have m3 : Int.tmod (p * 7 + 3) b.length < b.length := Int.tmod_lt_of_pos _ hl
      rw [if_pos m0, if_pos m1, w3, if_pos m2, if_pos m3, if_neg (by omega)]
      have r1 := rdB hb (Int.tmod p b.length)
      have r2 := rdB hb (Int.tmod (p * 7 + 3) b.length)
      have d0 : 0 ≤ Int.tdiv p b.length := Int.tdiv_nonneg hp0 (by omega)
      have d1 : Int.tdiv p b.length ≤ p := Int.tdiv_le_self _ hp0
      generalize rd b (Int.tmod p b.length) = R1 at *
      generalize rd b (Int.tmod (p * 7 + 3) b.length) = R2 at *
      generalize Int.tdiv p b.length = D at *
      rw [w64 (x := R1) (by omega), w64 (x := R2) (by omega), w64 (x := D) (by omega), w64 (x := R1 * 131) (by omega), w64 (x := R2 * 1117) (by omega), w64 (x := p * 29) (by omega), w64 (x := D * 53) (by omega), w64 (x := R1 * 131 + R2 * 1117) (by omega),
        w64 (x := R1 * 131 + R2 * 1117 + p * 29) (by omega), w64 (x := R1 * 131 + R2 * 1117 + p * 29 + D * 53) (by omega)]
      have x0 : 0 ≤ R1 * 131 + R2 * 1117 + p * 29 + D * 53 := by omega
      have x1 : R1 * 131 + R2 * 1117 + p * 29 + D * 53 < 4611686018427387904 := by omega
      generalize R1 * 131 + R2 * 1117 + p * 29 + D * 53 = X at *
      have y0 : 0 ≤ Int.tdiv X 64 := Int.tdiv_nonneg x0 (by decide)
      have y1 : Int.tdiv X 64 ≤ X := Int.tdiv_le_self _ x0
      rw [w64 (x := Int.tdiv X 64) (by omega)]
      exact ⟨_, rfl, Int.tmod_nonneg _ (xor_nn x0 x1 y0 (by omega)), Int.tmod_lt_of_pos _ (by omega)⟩
theorem open_ok (l : List Int) (hl : ∀ x ∈ l, 0 ≤ x ∧ x ≤ 255) : ∃ b, spec_l9Open.f l = some (b, 0) ∧ ∀ x ∈ b, 0 ≤ x ∧ x ≤ 255 := by
  unfold spec_l9Open.f
  by_cases h : (l.length : Int) > 2000
  · rw [if_pos h, if_pos (by omega)]
    exact ⟨_, rfl, fun x hx => hl x (List.mem_of_mem_take hx)⟩
  · rw [if_neg h]; exact ⟨_, rfl, hl⟩

theorem num_ok (k : Nat) (hk : 1 ≤ k) (b : List Int) (p : Int) (l : List Int) (hb : ∀ x ∈ b, 0 ≤ x ∧ x ≤ 255) (hp0 : 0 ≤ p) (hp : p ≤ 1000000) (hn : 1 ≤ l.length) :
    ∃ v, spec_l9Rd_num.f k b p l = some (v, p + 1) ∧ v ∈ l := by
  obtain ⟨v, hv, v0, v1⟩ := pick_ok k hk b p (l.length : Int) hb hp0 hp (by omega)
  unfold spec_l9Rd_num.f
  rw [hv]
  simp only [Option.bind_some]
  rw [if_pos v0, if_pos v1]
  refine ⟨_, rfl, ?_⟩
  unfold rd
  rw [List.getD_eq_getElem?_getD, List.getElem?_eq_getElem (by omega)]
  exact List.getElem_mem _

theorem two_ok (k : Nat) (hk : 5 ≤ k) (i : Int) (hi : i = 0 ∨ i = 1 ∨ i = 2) : ∃ t, spec_l1Two.f k i = some t ∧ t ≠ 0 := by
  rcases hi with rfl | rfl | rfl
  · exact ⟨1, Go.Proofs.YtohmemckdogljaaW.PrintWords.at_rounds (g := fun k => spec_l1Two.f k 0) (fun k => spec_l1Two.mono _ k) hk (show spec_l1Two.f 5 0 = some 1 by decide +kernel), by decide⟩
  · exact ⟨2, Go.Proofs.YtohmemckdogljaaW.PrintWords.at_rounds (g := fun k => spec_l1Two.f k 1) (fun k => spec_l1Two.mono _ k) hk (show spec_l1Two.f 5 1 = some 2 by decide +kernel), by decide⟩
  · exact ⟨4, Go.Proofs.YtohmemckdogljaaW.PrintWords.at_rounds (g := fun k => spec_l1Two.f k 2) (fun k => spec_l1Two.mono _ k) hk (show spec_l1Two.f 5 2 = some 4 by decide +kernel), by decide⟩
theorem has_tot (k : Nat) (hk : 5 ≤ k) (a i : Int) (hi : i = 0 ∨ i = 1 ∨ i = 2) : ∃ r, spec_l1Has.f k a i = some r := by
  obtain ⟨t, h, ht⟩ := two_ok k hk i hi
  unfold spec_l1Has.f
  rw [h]; simp only [Option.bind_some]; rw [if_neg ht]; exact ⟨_, rfl⟩
theorem mix_l0 (a b : Int) (c : Bool) : ∀ (d k : Nat) (x : Int), d ≤ 3 → d + 6 ≤ k → ∃ r, spec_l1Mix.l0 k a b c x ((d : Int) - 1) = some r := by
  intro d
  induction d with
  | zero =>
    intro k x _ hk
    obtain ⟨k, rfl⟩ : ∃ m, k = m + 1 := ⟨k - 1, by omega⟩
    exact ⟨x, by simp only [spec_l1Mix.l0]; rw [if_neg (by omega)]⟩
  | succ d ih =>
    intro k x hd hk
    obtain ⟨k, rfl⟩ : ∃ m, k = m + 1 := ⟨k - 1, by omega⟩
    obtain ⟨r1, h1⟩ := has_tot k (by omega) a (((d + 1 : Nat) : Int) - 1) (by omega)
    obtain ⟨r2, h2⟩ := has_tot k (by omega) b (((d + 1 : Nat) : Int) - 1) (by omega)
    simp only [spec_l1Mix.l0, h1, h2, Option.bind_some, w64 (x := ((d + 1 : Nat) : Int) - 1 - 1) (by omega)]
    rw [if_pos (by omega), show ((d + 1 : Nat) : Int) - 1 - 1 = (d : Int) - 1 by omega]
    repeat' split
    all_goals exact ih k _ (by omega) (by omega)
theorem mix_tot (k : Nat) (hk : 9 ≤ k) (a b : Int) (c : Bool) : ∃ r, spec_l1Mix.f k a b c = some r := mix_l0 a b c 3 k 0 (by omega) (by omega)
theorem less_tot (a0 a1 a2 a3 a4 b0 b1 b2 b3 b4 : Int) : ∃ r, spec_l2Less.f a0 a1 a2 a3 a4 b0 b1 b2 b3 b4 = some r := by
  unfold spec_l2Less.f spec_l2Code.f
  simp only [Option.bind_some]
  split
  · split <;> exact ⟨_, rfl⟩
  · exact ⟨_, rfl⟩
theorem node_ok (k : Nat) (hk : 1 ≤ k) (b : List Int) (p : Int) (hb : ∀ x ∈ b, 0 ≤ x ∧ x ≤ 255) (hp0 : 0 ≤ p) (hp : p ≤ 900000) : ∃ u v, spec_l2Node.f k b p = some (u, v, p + 2) := by
  obtain ⟨u, hu, _⟩ := num_ok k hk b p [0, 1, 2, 3, 0, 1, 4, 7] hb hp0 (by omega) (by decide)
  obtain ⟨v, hv, _⟩ := num_ok k hk b (p + 1) [0, 1, 2, 3, 40] hb (by omega) (by omega) (by decide)
  exact ⟨u, v, by unfold spec_l2Node.f; rw [hu]; simp only [Option.bind_some]; rw [hv]; simp; omega⟩
theorem edge_j1 (k : Nat) (hk : 10 ≤ k) (b : List Int) (p : Int) (hb : ∀ x ∈ b, 0 ≤ x ∧ x ≤ 255) (hp0 : 0 ≤ p) (hp : p ≤ 900000) (x y u v : Int) : ∃ l a c d e, spec_l2Edge.j1 k b p x y u v = some (l, a, c, d, e, p + 1) := by
  obtain ⟨k, rfl⟩ : ∃ m, k = m + 1 := ⟨k - 1, by omega⟩
  obtain ⟨m1, hm1⟩ := mix_tot k (by omega) x u false
  obtain ⟨w, hw, _⟩ := num_ok k (by omega) b p [0, 0, 0, 1, 2, 4] hb hp0 (by omega) (by decide)
  obtain ⟨m2, hm2⟩ := mix_tot k (by omega) m1 w false
  simp only [spec_l2Edge.j1, hm1, hw, hm2, spec_l2Code.f, Option.bind_some]
  split <;> exact ⟨_, _, _, _, _, rfl⟩
theorem edge_j0 (k : Nat) (hk : 11 ≤ k) (b : List Int) (p : Int) (hb : ∀ x ∈ b, 0 ≤ x ∧ x ≤ 255) (hp0 : 0 ≤ p) (hp : p ≤ 800000) (t : Bool) (ns : List S36) (es : List S56) (ht : t = true → 1 ≤ ns.length) (x y u v : Int) :
    ∃ l a c d e q, spec_l2Edge.j0 k t b p ns es x y u v = some (l, a, c, d, e, q) ∧ p ≤ q ∧ q ≤ p + 3 := by
  obtain ⟨k, rfl⟩ : ∃ m, k = m + 1 := ⟨k - 1, by omega⟩
  simp only [spec_l2Edge.j0]
  cases t with
  | true =>
    have hn := ht rfl
    obtain ⟨i, hi, i0, i1⟩ := pick_ok k (by omega) b p ns.length hb hp0 (by omega) (by omega)
    obtain ⟨j, hj, j0, j1⟩ := pick_ok k (by omega) b (p + 1) ns.length hb (by omega) (by omega) (by omega)
    simp only [if_true, hi, hj, Option.bind_some]
    rw [if_pos i0, if_pos i1, if_pos j0, if_pos j1]
    obtain ⟨l, a, c, d, e, h⟩ := edge_j1 k (by omega) b (p + 1 + 1) hb (by omega) (by omega) (rd_T36 ns i).f0 (rd_T36 ns i).f1 (rd_T36 ns j).f0 (rd_T36 ns j).f1
    exact ⟨l, a, c, d, e, _, h, by omega, by omega⟩
  | false =>
    simp only [Bool.false_eq_true, if_false]
    obtain ⟨l, a, c, d, e, h⟩ := edge_j1 k (by omega) b p hb (by omega) (by omega) x y u v
    exact ⟨l, a, c, d, e, _, h, by omega, by omega⟩
theorem edge_ok (k : Nat) (hk : 11 ≤ k) (b : List Int) (p : Int) (hb : ∀ x ∈ b, 0 ≤ x ∧ x ≤ 255) (hp0 : 0 ≤ p) (hp : p ≤ 700000) (ns : List S36) (es : List S56) :
    ∃ l a c d e q, spec_l2Edge.f k b p ns es = some (l, a, c, d, e, q) ∧ p ≤ q ∧ q ≤ p + 8 := by
  obtain ⟨x, y, h1⟩ := node_ok k (by omega) b p hb hp0 (by omega)
  obtain ⟨u, v, h2⟩ := node_ok k (by omega) b (p + 2) hb (by omega) (by omega)
  unfold spec_l2Edge.f
  simp only [h1, h2, Option.bind_some]
  by_cases c : (ns.length : Int) > 1
  · rw [if_pos c]
    obtain ⟨t, ht, _, _⟩ := pick_ok k (by omega) b (p + 2 + 2) 8 hb (by omega) (by omega) (by omega)
    simp only [ht, Option.bind_some]
    obtain ⟨l, a, c, d, e, q, h, q0, q1⟩ := edge_j0 k (by omega) b (p + 2 + 2 + 1) hb (by omega) (by omega) (decide (t > 0)) ns es (fun _ => by omega) x y u v
    exact ⟨l, a, c, d, e, q, h, by omega, by omega⟩
  · rw [if_neg c]
    obtain ⟨l, a, c, d, e, q, h, q0, q1⟩ := edge_j0 k (by omega) b (p + 2 + 2) hb (by omega) (by omega) false ns es (fun h => by cases h) x y u v
    exact ⟨l, a, c, d, e, q, h, by omega, by omega⟩
/-- What a drawn operation is: eight numbers, and how far the reader has gone. -/
def Op8 (r : Option (Int × Int × Int × Int × Int × Int × Int × Int × Int)) (p c : Int) : Prop := ∃ a0 a1 a2 a3 a4 a5 a6 a7 q, r = some (a0, a1, a2, a3, a4, a5, a6, a7, q) ∧ p ≤ q ∧ q ≤ p + c
theorem Op8.up {r p c p' c'} (h : Op8 r p c) (h1 : p' ≤ p) (h2 : p + c ≤ p' + c') : Op8 r p' c' := by
  obtain ⟨a0, a1, a2, a3, a4, a5, a6, a7, q, h, q0, q1⟩ := h
  exact ⟨a0, a1, a2, a3, a4, a5, a6, a7, q, h, by omega, by omega⟩
theorem op_j0 (k : Nat) (hk : 2 ≤ k) (b : List Int) (p : Int) (hb : ∀ x ∈ b, 0 ≤ x ∧ x ≤ 255) (hp0 : 0 ≤ p) (hp : p ≤ 900000) (a0 a1 a2 a3 a4 a5 a6 a7 : Int) : Op8 (spec_l2Op.j0 k b p a0 a1 a2 a3 a4 a5 a6 a7) p 2 := by
  obtain ⟨k, rfl⟩ : ∃ m, k = m + 1 := ⟨k - 1, by omega⟩
  obtain ⟨t, ht, _, _⟩ := pick_ok k (by omega) b p 60 hb hp0 (by omega) (by omega)
  obtain ⟨n0, h0, _⟩ := num_ok k (by omega) b (p + 1) [0, 5, (-1), 2] hb (by omega) (by omega) (by decide)
  obtain ⟨n1, h1, _⟩ := num_ok k (by omega) b (p + 1) [(-1), 41, 5] hb (by omega) (by omega) (by decide)
  obtain ⟨n2, h2, _⟩ := num_ok k (by omega) b (p + 1) [0, 8, (-1)] hb (by omega) (by omega) (by decide)
  simp only [spec_l2Op.j0, ht, h0, h1, h2, Option.bind_some]
  repeat' split
  all_goals exact ⟨_, _, _, _, _, _, _, _, _, rfl, by omega, by omega⟩
theorem op_ok (k : Nat) (hk : 11 ≤ k) (b : List Int) (p : Int) (hb : ∀ x ∈ b, 0 ≤ x ∧ x ≤ 255) (hp0 : 0 ≤ p) (hp : p ≤ 600000) (ns : List S36) (es : List S56) : Op8 (spec_l2Op.f k b p ns es) p 20 := by
  obtain ⟨t, ht, _⟩ := num_ok k (by omega) b p [1, 2, 2, 1, 2, 3, 4, 2] hb hp0 (by omega) (by decide)
  obtain ⟨x, y, h1⟩ := node_ok k (by omega) b (p + 1) hb (by omega) (by omega)
  obtain ⟨l, a, c, d, e, q, h2, q0, q1⟩ := edge_ok k hk b (p + 1) hb (by omega) (by omega) ns es
  obtain ⟨u, hu, _, _⟩ := pick_ok k (by omega) b q 4 hb (by omega) (by omega) (by omega)
  obtain ⟨w, hw, _, _⟩ := pick_ok k (by omega) b (p + 1 + 2) 2 hb (by omega) (by omega) (by omega)
  unfold spec_l2Op.f
  simp only [ht, h1, h2, hu, hw, Option.bind_some]
  by_cases c1 : t = 1
  · rw [if_pos c1]; exact (op_j0 k (by omega) b _ hb (by omega) (by omega) _ _ _ _ _ _ _ _).up (by omega) (by omega)
  rw [if_neg c1]
  by_cases c2 : t = 2
  · rw [if_pos c2]; exact (op_j0 k (by omega) b _ hb (by omega) (by omega) _ _ _ _ _ _ _ _).up (by omega) (by omega)
  rw [if_neg c2]
  by_cases c3 : t = 3
  · rw [if_pos c3]
    by_cases c4 : (es.length : Int) > 0
    · rw [if_pos c4]
      by_cases c5 : u > 0
      · rw [if_pos c5]
        obtain ⟨j, hj, j0, j1⟩ := pick_ok k (by omega) b (q + 1) es.length hb (by omega) (by omega) (by omega)
        rw [hj]; simp only [Option.bind_some]
        rw [if_pos j0, if_pos j1]
        exact (op_j0 k (by omega) b _ hb (by omega) (by omega) _ _ _ _ _ _ _ _).up (by omega) (by omega)
      · rw [if_neg c5]; exact (op_j0 k (by omega) b _ hb (by omega) (by omega) _ _ _ _ _ _ _ _).up (by omega) (by omega)
    · rw [if_neg c4]; exact (op_j0 k (by omega) b _ hb (by omega) (by omega) _ _ _ _ _ _ _ _).up (by omega) (by omega)
  rw [if_neg c3]
  by_cases c6 : t = 4
  · rw [if_pos c6]
    by_cases c4 : (ns.length : Int) > 0
    · rw [if_pos c4]
      by_cases c5 : w > 0
      · rw [if_pos c5]
        obtain ⟨j, hj, j0, j1⟩ := pick_ok k (by omega) b (p + 1 + 2 + 1) ns.length hb (by omega) (by omega) (by omega)
        rw [hj]; simp only [Option.bind_some]
        rw [if_pos j0, if_pos j1]
        exact (op_j0 k (by omega) b _ hb (by omega) (by omega) _ _ _ _ _ _ _ _).up (by omega) (by omega)
      · rw [if_neg c5]; exact (op_j0 k (by omega) b _ hb (by omega) (by omega) _ _ _ _ _ _ _ _).up (by omega) (by omega)
    · rw [if_neg c4]; exact (op_j0 k (by omega) b _ hb (by omega) (by omega) _ _ _ _ _ _ _ _).up (by omega) (by omega)
  · rw [if_neg c6]; exact (op_j0 k (by omega) b _ hb (by omega) (by omega) _ _ _ _ _ _ _ _).up (by omega) (by omega)
theorem opLabel_tot (k : Nat) (hk : 2 ≤ k) (a0 a1 a2 a3 a4 a5 a6 a7 : Int) : ∃ r, spec_OpLabel.f k a0 a1 a2 a3 a4 a5 a6 a7 = some r := by
  obtain ⟨k, rfl⟩ : ∃ m, k = m + 2 := ⟨k - 2, by omega⟩
  unfold spec_OpLabel.f
  simp only [spec_OpLabel.j0, spec_OpLabel.j1, spec_EdgeOk.f, sN, Option.bind_some]
  repeat' split
  all_goals exact ⟨_, rfl⟩
theorem edgeAt_l0 (ns : List S36) (es : List S56) (hm : es.length ≤ 2097152) (a b c d e : Int) : ∀ (n k i : Nat), i + n = es.length → n < k → ∃ r, spec_l2EdgeAt.l0 k i ns es a b c d e = some r := by
  intro n
  induction n with
  | zero =>
    intro k i hd hk
    obtain ⟨k, rfl⟩ : ∃ m, k = m + 1 := ⟨k - 1, by omega⟩
    simp only [spec_l2EdgeAt.l0]; rw [if_neg (by omega)]; exact ⟨_, rfl⟩
  | succ n ih =>
    intro k i hd hk
    obtain ⟨k, rfl⟩ : ∃ m, k = m + 1 := ⟨k - 1, by omega⟩
    simp only [spec_l2EdgeAt.l0]
    rw [if_pos (by omega), if_pos (by omega), w64 (x := (i : Int) + 1) (by omega), show (i : Int) + 1 = ((i + 1 : Nat) : Int) by omega]
    split
    · exact ⟨_, rfl⟩
    · exact ih k (i + 1) (by omega) (by omega)
theorem ends_tot (ns : List S36) (es : List S56) (hn : ns.length ≤ 2097152) (hm : es.length ≤ 2097152) (k : Nat) (hk : ns.length + es.length + 4 < k) (a0 a1 a2 a3 a4 a5 a6 a7 : Int) : ∃ r, spec_l2Ends.f k ns es a0 a1 a2 a3 a4 a5 a6 a7 = some r := by
  obtain ⟨r1, h1, _⟩ := at_ok ns es hn a1 a2 k (by omega)
  obtain ⟨r2, h2⟩ := edgeAt_l0 ns es hm a3 a4 a5 a6 a7 es.length k 0 (by omega) (by omega)
  obtain ⟨r3, h3, _⟩ := at_ok ns es hn a4 a5 k (by omega)
  obtain ⟨r4, h4, _⟩ := at_ok ns es hn a6 a7 k (by omega)
  unfold spec_l2Ends.f spec_l2EdgeAt.f
  rw [show ((0 : Nat) : Int) = 0 from rfl] at h2
  simp only [h1, h2, h3, h4, Option.bind_some]
  obtain ⟨k, rfl⟩ : ∃ m, k = m + 3 := ⟨k - 3, by omega⟩
  have n0 := cntN_l0 ns es hn a1 ns.length k 0 0 (by omega) (by omega) (by omega)
  have e0 := cntE_l0 ns es hm a3 es.length k 0 0 (by omega) (by omega) (by omega)
  rw [show ((0 : Nat) : Int) = 0 from rfl] at n0 e0
  have j2 : ∀ t, ∃ r, spec_l2Ends.j2 (k + 1) t ns es a0 a1 a2 a3 a4 a5 a6 a7 = some r := by
    intro t
    simp only [spec_l2Ends.j2, spec_l2Nodes.f, spec_l2Edges.f, n0, e0, Option.bind_some]
    repeat' split
    all_goals exact ⟨_, rfl⟩
  have j1 : ∀ t u v w, ∃ r, spec_l2Ends.j1 (k + 2) t u v w ns es a0 a1 a2 a3 a4 a5 a6 a7 = some r := by
    intro t u v w
    simp only [spec_l2Ends.j1]
    repeat' split
    all_goals first | exact ⟨_, rfl⟩ | exact j2 _
  have j0 : ∀ t u v, ∃ r, spec_l2Ends.j0 (k + 3) t u v ns es a0 a1 a2 a3 a4 a5 a6 a7 = some r := by
    intro t u v
    simp only [spec_l2Ends.j0]
    repeat' split
    all_goals exact j1 _ _ _ _
  split <;> exact j0 _ _ _
theorem copy_ok (ns : List S36) (es : List S56) (hn : ns.length ≤ 2097152) (hm : es.length ≤ 2097152) : spec_l2Copy.f ns es = some (ns, es) := by
  unfold spec_l2Copy.f
  simp only [Option.bind_some, List.length_nil, Nat.zero_add, List.nil_append]
  rw [if_pos (by omega), if_pos (by omega)]
theorem putN_l0 (ns : List S36) (es : List S56) (hn : ns.length ≤ 2097152) (a b : Int) : ∀ (d k i : Nat), i + d = ns.length → d < k → ∃ ns', spec_l2PutNode.l0 k i ns es a b = some (ns', es) ∧ ns'.length = ns.length + 1 := by
  intro d
  have fin : ∀ i : Nat, i ≤ ns.length → ∃ ns' : List S36, (some (([] : List S36) : List S36)).bind (fun y => if (i : Int) ≤ (ns.length : Int) then ((some (ns.drop (i : Int).toNat : List S36)).bind fun y1 => (if y.length + y1.length < 8796093022208 then ((some (y ++ y1 : List S36)).bind fun y2 => ((some (ns.take (i : Int).toNat : List S36)).bind fun y3 => (if y3.length < 8796093022208 then ((some (y3 ++ [(⟨a, b⟩ : S36)] : List S36)).bind fun y4 => (if y4.length + y2.length < 8796093022208 then (some ((y4 ++ y2), es)) else (none))) else (none)))) else (none))) else (none)) = some (ns', es) ∧ ns'.length = ns.length + 1 := by
    intro i hi
    simp only [Option.bind_some, Int.toNat_natCast]
    rw [if_pos (by omega), if_pos (by simp; omega), if_pos (by simp; omega), if_pos (by simp; omega)]
    exact ⟨_, rfl, by simp; omega⟩
  induction d with
  | zero =>
    intro k i hd hk
    obtain ⟨k, rfl⟩ : ∃ m, k = m + 1 := ⟨k - 1, by omega⟩
    simp only [spec_l2PutNode.l0]
    rw [if_neg (by omega)]
    have := fin i (by omega)
    simpa only [if_pos (show 0 ≤ (i : Int) by omega)] using this
  | succ d ih =>
    intro k i hd hk
    obtain ⟨k, rfl⟩ : ∃ m, k = m + 1 := ⟨k - 1, by omega⟩
    simp only [spec_l2PutNode.l0, spec_l2Code.f]
    rw [if_pos (by omega), if_pos (by omega), w64 (x := (i : Int) + 1) (by omega), Option.bind_some, Option.bind_some]
    split
    · have := ih k (i + 1) (by omega) (by omega)
      rwa [show ((i + 1 : Nat) : Int) = (i : Int) + 1 by omega] at this
    · exact fin i (by omega)
theorem putN_ok (ns : List S36) (es : List S56) (hn : ns.length ≤ 2097152) (a b : Int) (k : Nat) (hk : ns.length < k) : ∃ ns', spec_l2PutNode.f k ns es a b = some (ns', es) ∧ ns'.length = ns.length + 1 := putN_l0 ns es hn a b ns.length k 0 (by omega) hk
theorem putE_l0 (ns : List S36) (es : List S56) (hm : es.length ≤ 2097152) (a b c d' e : Int) : ∀ (d k i : Nat), i + d = es.length → d < k → ∃ es', spec_l2PutEdge.l0 k i ns es a b c d' e = some (ns, es') ∧ es'.length = es.length + 1 := by
  intro d
  have fin : ∀ i : Nat, i ≤ es.length → ∃ es' : List S56, (some (([] : List S56) : List S56)).bind (fun y => if (i : Int) ≤ (es.length : Int) then ((some (es.drop (i : Int).toNat : List S56)).bind fun y1 => (if y.length + y1.length < 3518437208883 then ((some (y ++ y1 : List S56)).bind fun y2 => ((some (es.take (i : Int).toNat : List S56)).bind fun y3 => (if y3.length < 3518437208883 then ((some (y3 ++ [(⟨a, (⟨b, c⟩ : S36), (⟨d', e⟩ : S36)⟩ : S56)] : List S56)).bind fun y4 => (if y4.length + y2.length < 3518437208883 then (some (ns, (y4 ++ y2))) else (none))) else (none)))) else (none))) else (none)) = some (ns, es') ∧ es'.length = es.length + 1 := by
    intro i hi
    simp only [Option.bind_some, Int.toNat_natCast]
    rw [if_pos (by omega), if_pos (by simp; omega), if_pos (by simp; omega), if_pos (by simp; omega)]
    exact ⟨_, rfl, by simp; omega⟩
  induction d with
  | zero =>
    intro k i hd hk
    obtain ⟨k, rfl⟩ : ∃ m, k = m + 1 := ⟨k - 1, by omega⟩
    simp only [spec_l2PutEdge.l0]
    rw [if_neg (by omega)]
    have := fin i (by omega)
    simpa only [if_pos (show 0 ≤ (i : Int) by omega)] using this
  | succ d ih =>
    intro k i hd hk
    obtain ⟨k, rfl⟩ : ∃ m, k = m + 1 := ⟨k - 1, by omega⟩
    obtain ⟨t, ht⟩ := less_tot (rd_T56 es i).f0 (rd_T56 es i).f1.f0 (rd_T56 es i).f1.f1 (rd_T56 es i).f2.f0 (rd_T56 es i).f2.f1 a b c d' e
    simp only [spec_l2PutEdge.l0]
    rw [if_pos (by omega), if_pos (by omega), w64 (x := (i : Int) + 1) (by omega), ht, Option.bind_some]
    split
    · have := ih k (i + 1) (by omega) (by omega)
      rwa [show ((i + 1 : Nat) : Int) = (i : Int) + 1 by omega] at this
    · exact fin i (by omega)
theorem cut_l0 (ns : List S36) (es : List S56) (hm : es.length ≤ 2097152) (a b c d' e : Int) : ∀ (d k i : Nat) (out : List S56), i + d = es.length → out.length ≤ i → d < k → ∃ es', spec_l2Cut.l0 k out i ns es a b c d' e = some (ns, es') ∧ es'.length ≤ es.length := by
  intro d
  induction d with
  | zero =>
    intro k i out hd ho hk
    obtain ⟨k, rfl⟩ : ∃ m, k = m + 1 := ⟨k - 1, by omega⟩
    simp only [spec_l2Cut.l0]; rw [if_neg (by omega)]; exact ⟨_, rfl, by omega⟩
  | succ d ih =>
    intro k i out hd ho hk
    obtain ⟨k, rfl⟩ : ∃ m, k = m + 1 := ⟨k - 1, by omega⟩
    simp only [spec_l2Cut.l0]
    rw [if_pos (by omega), if_pos (by omega), w64 (x := (i : Int) + 1) (by omega), show (i : Int) + 1 = ((i + 1 : Nat) : Int) by omega]
    split
    · rw [if_pos (by omega)]; exact ih k (i + 1) _ (by omega) (by simp; omega) (by omega)
    · exact ih k (i + 1) _ (by omega) (by omega) (by omega)
theorem off_l1 (ns : List S36) (es : List S56) (hm : es.length ≤ 2097152) (a b : Int) (on_ : List S36) : ∀ (d k i : Nat) (out : List S56), i + d = es.length → out.length ≤ i → d < k → ∃ es', spec_l2Off.l1 k i ns es a b on_ out = some (on_, es') ∧ es'.length ≤ es.length := by
  intro d
  induction d with
  | zero =>
    intro k i out hd ho hk
    obtain ⟨k, rfl⟩ : ∃ m, k = m + 1 := ⟨k - 1, by omega⟩
    simp only [spec_l2Off.l1]; rw [if_neg (by omega)]; exact ⟨_, rfl, by omega⟩
  | succ d ih =>
    intro k i out hd ho hk
    obtain ⟨k, rfl⟩ : ∃ m, k = m + 1 := ⟨k - 1, by omega⟩
    simp only [spec_l2Off.l1]
    rw [if_pos (by omega), if_pos (by omega), w64 (x := (i : Int) + 1) (by omega), show (i : Int) + 1 = ((i + 1 : Nat) : Int) by omega]
    split
    · split
      · rw [if_pos (by omega)]; exact ih k (i + 1) _ (by omega) (by simp; omega) (by omega)
      · exact ih k (i + 1) _ (by omega) (by omega) (by omega)
    · exact ih k (i + 1) _ (by omega) (by omega) (by omega)
theorem off_l0 (ns : List S36) (es : List S56) (hn : ns.length ≤ 2097152) (hm : es.length ≤ 2097152) (a b : Int) : ∀ (d k i : Nat) (out : List S36), i + d = ns.length → out.length ≤ i → d + es.length + 1 < k → ∃ ns' es', spec_l2Off.l0 k i ns es a b out [] = some (ns', es') ∧ ns'.length ≤ ns.length ∧ es'.length ≤ es.length := by
  intro d
  induction d with
  | zero =>
    intro k i out hd ho hk
    obtain ⟨k, rfl⟩ : ∃ m, k = m + 1 := ⟨k - 1, by omega⟩
    simp only [spec_l2Off.l0]; rw [if_neg (by omega)]
    obtain ⟨es', h, hl⟩ := off_l1 ns es hm a b out es.length k 0 [] (by omega) (by simp) (by omega)
    exact ⟨out, es', h, by omega, hl⟩
  | succ d ih =>
    intro k i out hd ho hk
    obtain ⟨k, rfl⟩ : ∃ m, k = m + 1 := ⟨k - 1, by omega⟩
    simp only [spec_l2Off.l0]
    rw [if_pos (by omega), if_pos (by omega), w64 (x := (i : Int) + 1) (by omega), show (i : Int) + 1 = ((i + 1 : Nat) : Int) by omega]
    split
    · rw [if_pos (by omega)]; exact ih k (i + 1) _ (by omega) (by simp; omega) (by omega)
    · exact ih k (i + 1) _ (by omega) (by omega) (by omega)
theorem do_ok (ns : List S36) (es : List S56) (hn : ns.length ≤ 2097151) (hm : es.length ≤ 2097151) (k : Nat) (hk : ns.length + es.length + 4 < k) (a0 a1 a2 a3 a4 a5 a6 a7 : Int) :
    ∃ ns' es' c, spec_l2Do.f k ns es a0 a1 a2 a3 a4 a5 a6 a7 = some (ns', es', c) ∧ ns'.length ≤ ns.length + 1 ∧ es'.length ≤ es.length + 1 := by
  obtain ⟨t, ht⟩ := opLabel_tot k (by omega) a0 a1 a2 a3 a4 a5 a6 a7
  obtain ⟨u, hu⟩ := ends_tot ns es (by omega) (by omega) k hk a0 a1 a2 a3 a4 a5 a6 a7
  obtain ⟨n1, p1, l1⟩ := putN_ok ns es (by omega) a1 a2 k (by omega)
  obtain ⟨e1, p2, l2⟩ := putE_l0 ns es (by omega) a3 a4 a5 a6 a7 es.length k 0 (by omega) (by omega)
  obtain ⟨e2, p3, l3⟩ := cut_l0 ns es (by omega) a3 a4 a5 a6 a7 es.length k 0 [] (by omega) (by simp) (by omega)
  obtain ⟨n4, e4, p4, l4, l5⟩ := off_l0 ns es (by omega) (by omega) a1 a2 ns.length k 0 [] (by omega) (by simp) (by omega)
  rw [show ((0 : Nat) : Int) = 0 from rfl] at p2 p3 p4
  unfold spec_l2Do.f spec_l2PutEdge.f spec_l2Cut.f spec_l2Off.f
  simp only [ht, hu, copy_ok ns es (show ns.length ≤ 2097152 by omega) (show es.length ≤ 2097152 by omega), p1, p2, p3, p4, Option.bind_some]
  repeat' split
  all_goals exact ⟨_, _, _, rfl, by omega, by omega⟩
theorem graph_l0 (b : List Int) (hb : ∀ x ∈ b, 0 ≤ x ∧ x ≤ 255) : ∀ (d k : Nat) (p : Int) (ns : List S36) (es : List S56), 0 ≤ p → p + 20 * d ≤ 500000 → ns.length + d ≤ 100 → es.length + d ≤ 100 → d + 300 < k →
    ∃ ns' es' q, spec_l2Graph.l0 k d b p ns es = some (ns', es', q) ∧ ns'.length ≤ 100 ∧ es'.length ≤ 100 ∧ 0 ≤ q ∧ q ≤ p + 20 * d := by
  intro d
  induction d with
  | zero =>
    intro k p ns es hp0 hp hn hm hk
    obtain ⟨k, rfl⟩ : ∃ m, k = m + 1 := ⟨k - 1, by omega⟩
    simp only [spec_l2Graph.l0]
    rw [if_neg (by omega), copy_ok ns es (by omega) (by omega)]
    exact ⟨_, _, _, rfl, by omega, by omega, by omega, by omega⟩
  | succ d ih =>
    intro k p ns es hp0 hp hn hm hk
    obtain ⟨k, rfl⟩ : ∃ m, k = m + 1 := ⟨k - 1, by omega⟩
    obtain ⟨a0, a1, a2, a3, a4, a5, a6, a7, q, h1, q0, q1⟩ := op_ok k (by omega) b p hb hp0 (by omega) ns es
    obtain ⟨ns', es', c, h2, l1, l2⟩ := do_ok ns es (by omega) (by omega) k (by omega) a0 a1 a2 a3 a4 a5 a6 a7
    simp only [spec_l2Graph.l0, h1, h2, Option.bind_some]
    rw [if_pos (by omega), w64 (x := ((d + 1 : Nat) : Int) - 1) (by omega), show ((d + 1 : Nat) : Int) - 1 = (d : Int) by omega]
    obtain ⟨n, e, r, h3, l3, l4, r0, r1⟩ := ih k q ns' es' (by omega) (by omega) (by omega) (by omega) (by omega)
    exact ⟨n, e, r, h3, l3, l4, r0, by omega⟩
theorem graph_ok (b : List Int) (hb : ∀ x ∈ b, 0 ≤ x ∧ x ≤ 255) (k : Nat) (hk : 400 < k) (p : Int) (hp0 : 0 ≤ p) (hp : p ≤ 400000) :
    ∃ ns es q, spec_l2Graph.f k b p = some (ns, es, q) ∧ ns.length ≤ 100 ∧ es.length ≤ 100 ∧ 0 ≤ q ∧ q ≤ p + 1300 := by
  obtain ⟨t, ht, tm⟩ := num_ok k (by omega) b p [12, 24, 36, 48, 60, 5, 0] hb hp0 (by omega) (by decide)
  have t0 : 0 ≤ t ∧ t ≤ 60 := by simp at tm; omega
  obtain ⟨d, rfl⟩ := Int.eq_ofNat_of_zero_le t0.1
  obtain ⟨ns, es, q, h, l1, l2, q0, q1⟩ := graph_l0 b hb d k (p + 1) [] [] (by omega) (by omega) (by simp; omega) (by simp; omega) (by omega)
  exact ⟨ns, es, q, by unfold spec_l2Graph.f; rw [ht]; exact h, l1, l2, q0, by omega⟩
theorem bent_l0 (b : List Int) (es : List S56) (p : Int) : ∀ (d k : Nat) (i : Int) (ns : List S36), i + d = 36 → 0 ≤ i → ns.length + d ≤ 200 → d + 201 < k → ∃ ns', spec_l2Bent.l0 k i b p ns es = some (ns', es, p) ∧ ns'.length ≤ ns.length + d := by
  intro d
  induction d with
  | zero =>
    intro k i ns hd hi hn hk
    obtain ⟨k, rfl⟩ : ∃ m, k = m + 1 := ⟨k - 1, by omega⟩
    simp only [spec_l2Bent.l0]; rw [if_neg (by omega)]; exact ⟨_, rfl, by omega⟩
  | succ d ih =>
    intro k i ns hd hi hn hk
    obtain ⟨k, rfl⟩ : ∃ m, k = m + 1 := ⟨k - 1, by omega⟩
    obtain ⟨n1, h1, l1⟩ := putN_ok ns es (by omega) 5 i k (by omega)
    simp only [spec_l2Bent.l0, h1, Option.bind_some]
    rw [if_pos (by omega), w64 (x := i + 1) (by omega)]
    obtain ⟨n2, h2, l2⟩ := ih k (i + 1) n1 (by omega) (by omega) (by omega) (by omega)
    exact ⟨n2, h2, by omega⟩
theorem bent_ok (b : List Int) (hb : ∀ x ∈ b, 0 ≤ x ∧ x ≤ 255) (k : Nat) (hk : 400 < k) (p : Int) (hp0 : 0 ≤ p) (hp : p ≤ 800000) (ns : List S36) (es : List S56) (hn : ns.length ≤ 150) (hm : es.length ≤ 150) :
    ∃ ns' es' q, spec_l2Bent.f k b p ns es = some (ns', es', q) ∧ ns'.length ≤ ns.length + 6 ∧ es'.length ≤ es.length + 1 ∧ 0 ≤ q ∧ q ≤ p + 3 := by
  obtain ⟨t, ht, _, _⟩ := pick_ok k (by omega) b p 60 hb hp0 (by omega) (by omega)
  unfold spec_l2Bent.f
  simp only [copy_ok ns es (show ns.length ≤ 2097152 by omega) (show es.length ≤ 2097152 by omega), ht, Option.bind_some]
  by_cases c0 : t = 0
  · rw [if_pos c0]
    by_cases c : (ns.length : Int) > 0
    · rw [if_pos c]
      obtain ⟨j, hj, j0, j1⟩ := pick_ok k (by omega) b (p + 1) ns.length hb (by omega) (by omega) (by omega)
      obtain ⟨w, hw, _⟩ := num_ok k (by omega) b (p + 1 + 1) [(-1), 41, 39] hb (by omega) (by omega) (by decide)
      simp only [hj, hw, Option.bind_some]
      rw [if_pos j0, if_pos j1]
      exact ⟨_, _, _, rfl, by simp, by omega, by omega, by omega⟩
    · rw [if_neg c]; exact ⟨_, _, _, rfl, by omega, by omega, by omega, by omega⟩
  rw [if_neg c0]
  by_cases c1 : t = 1
  · rw [if_pos c1]
    by_cases c : (ns.length : Int) > 0
    · rw [if_pos c, if_pos (by omega), if_pos (by omega)]; exact ⟨_, _, _, rfl, by simp, by omega, by omega, by omega⟩
    · rw [if_neg c]; exact ⟨_, _, _, rfl, by omega, by omega, by omega, by omega⟩
  rw [if_neg c1]
  by_cases c2 : t = 2
  · rw [if_pos c2]
    by_cases c : (ns.length : Int) > 0
    · rw [if_pos c, if_pos (by omega)]; exact ⟨_, _, _, rfl, by simp; omega, by omega, by omega, by omega⟩
    · rw [if_neg c]; exact ⟨_, _, _, rfl, by omega, by omega, by omega, by omega⟩
  rw [if_neg c2]
  by_cases c3 : t = 3
  · rw [if_pos c3]
    by_cases c : (es.length : Int) > 0
    · rw [if_pos c]
      obtain ⟨j, hj, j0, j1⟩ := pick_ok k (by omega) b (p + 1) es.length hb (by omega) (by omega) (by omega)
      obtain ⟨w, hw, _⟩ := num_ok k (by omega) b (p + 1 + 1) [0, 8, (-1), 7] hb (by omega) (by omega) (by decide)
      simp only [hj, hw, Option.bind_some]
      rw [if_pos j0, if_pos j1]
      exact ⟨_, _, _, rfl, by omega, by simp, by omega, by omega⟩
    · rw [if_neg c]; exact ⟨_, _, _, rfl, by omega, by omega, by omega, by omega⟩
  rw [if_neg c3]
  by_cases c4 : t = 4
  · rw [if_pos c4]
    by_cases c : (es.length : Int) > 0
    · rw [if_pos c, if_pos (by omega), if_pos (by omega)]; exact ⟨_, _, _, rfl, by omega, by simp, by omega, by omega⟩
    · rw [if_neg c]; exact ⟨_, _, _, rfl, by omega, by omega, by omega, by omega⟩
  rw [if_neg c4]
  by_cases c5 : t = 5
  · rw [if_pos c5]
    obtain ⟨n2, h2, l2⟩ := bent_l0 b es (p + 1) 6 k 30 ns (by omega) (by omega) (by omega) (by omega)
    exact ⟨n2, es, p + 1, h2, by omega, by omega, by omega, by omega⟩
  · rw [if_neg c5]; exact ⟨_, _, _, rfl, by omega, by omega, by omega, by omega⟩

theorem l1Label_ok (k : Nat) (hk : 1 ≤ k) (b : List Int) (p : Int) (hb : ∀ x ∈ b, 0 ≤ x ∧ x ≤ 255) (hp0 : 0 ≤ p) (hp : p ≤ 900000) :
    ∃ v, spec_l1Label.f k b p = some (v, p + 2) ∧ -9223372036854775808 ≤ v ∧ v ≤ 9223372036854775807 := by
  obtain ⟨v, hv, v0, v1⟩ := pick_ok k hk b p 20 hb hp0 (by omega) (by omega)
  unfold spec_l1Label.f
  rw [hv]
  simp only [Option.bind_some]
  by_cases h : v = 0
  · rw [if_pos h]
    obtain ⟨u, hu, um⟩ := num_ok k hk b (p + 1) [(-1), 8, 9223372036854775807, (-9223372036854775808)] hb (by omega) (by omega) (by decide)
    rw [hu]
    refine ⟨u, by simp; omega, ?_⟩
    simp at um; omega
  · rw [if_neg h]
    obtain ⟨u, hu, u0, u1⟩ := pick_ok k hk b (p + 1) 8 hb (by omega) (by omega) (by omega)
    rw [hu]
    exact ⟨u, by simp; omega, by omega, by omega⟩

theorem view_drawn (l : List Int) (hl : ∀ x ∈ l, 0 ≤ x ∧ x ≤ 255) (k : Nat) (hk : 400 < k) : ∃ ns es c, spec_DrawGraphView.f k l = some (ns, es, c) ∧ ns.length ≤ 106 ∧ es.length ≤ 101 := by
  obtain ⟨b, h0, hb⟩ := open_ok l hl
  obtain ⟨n1, e1, q1, h1, l1, l2, r1, s1⟩ := graph_ok b hb k hk 0 (by omega) (by omega)
  obtain ⟨n2, e2, q2, h2, l3, l4, r2, s2⟩ := bent_ok b hb k hk q1 r1 (by omega) n1 e1 (by omega) (by omega)
  obtain ⟨c, h3, _⟩ := l1Label_ok k (by omega) b q2 hb r2 (by omega)
  exact ⟨n2, e2, c, by unfold spec_DrawGraphView.f; simp only [h0, h1, h2, h3, Option.bind_some], by omega, by omega⟩

theorem sameN_l0 (ns : List S36) (hn : ns.length ≤ 2097152) : ∀ (d k i : Nat), i + d = ns.length → d < k → impl_Node_90.l0 k ns ns ns.length i = some true := by
  intro d
  induction d with
  | zero =>
    intro k i hd hk
    obtain ⟨k, rfl⟩ : ∃ m, k = m + 1 := ⟨k - 1, by omega⟩
    simp only [impl_Node_90.l0]; rw [if_neg (by omega)]
  | succ d ih =>
    intro k i hd hk
    obtain ⟨k, rfl⟩ : ∃ m, k = m + 1 := ⟨k - 1, by omega⟩
    simp only [impl_Node_90.l0]
    rw [if_pos (by omega), if_pos (by omega), if_pos (by omega), if_pos (by omega), if_neg (by simp), w64 (x := (i : Int) + 1) (by omega), show (i : Int) + 1 = ((i + 1 : Nat) : Int) by omega]
    exact ih k (i + 1) (by omega) (by omega)
theorem sameE_l0 (es : List S56) (hm : es.length ≤ 2097152) : ∀ (d k i : Nat), i + d = es.length → d < k → impl_Edge.l0 k es es es.length i = some true := by
  intro d
  induction d with
  | zero =>
    intro k i hd hk
    obtain ⟨k, rfl⟩ : ∃ m, k = m + 1 := ⟨k - 1, by omega⟩
    simp only [impl_Edge.l0]; rw [if_neg (by omega)]
  | succ d ih =>
    intro k i hd hk
    obtain ⟨k, rfl⟩ : ∃ m, k = m + 1 := ⟨k - 1, by omega⟩
    simp only [impl_Edge.l0]
    rw [if_pos (by omega), if_pos (by omega), if_pos (by omega), if_pos (by omega), if_neg (by simp), w64 (x := (i : Int) + 1) (by omega), show (i : Int) + 1 = ((i + 1 : Nat) : Int) by omega]
    exact ih k (i + 1) (by omega) (by omega)
theorem same_self (ns : List S36) (es : List S56) (hn : ns.length ≤ 2097152) (hm : es.length ≤ 2097152) (k : Nat) (hk : ns.length + es.length < k) : impl_GraphSame.f k ns es ns es = some true := by
  have a := sameN_l0 ns hn ns.length k 0 (by omega) (by omega)
  have b := sameE_l0 es hm es.length k 0 (by omega) (by omega)
  rw [show ((0 : Nat) : Int) = 0 from rfl] at a b
  unfold impl_GraphSame.f impl_Node_90.f impl_Edge.f
  rw [if_pos rfl, if_pos rfl, a, b]; rfl
theorem U08 : ∀ x : Fin 8, U (x.val : Int) 0 = true → (x.val : Int) = 0 := by decide +kernel
theorem U0 {a : Int} (h : U a 0 = true) : a = 0 := by
  have hl : isL a = true := by simp [U] at h; exact h.1
  obtain ⟨x, rfl⟩ := fin8 hl
  exact U08 x h
theorem GV_nil (c : Int) : GV [] [] c = ([], []) := by unfold GV; split <;> rfl

/-- The letters that both have. -/
def Mt (a b : Int) : Int := ((a.toNat &&& b.toNat : Nat) : Int)
theorem iMeet8 : ∀ x y : Fin 8, impl_LabelMeet.f (x.val : Int) (y.val : Int) = some (Mt x.val y.val) := by decide +kernel
theorem iMeet {a b : Int} (ha : isL a = true) (hb : isL b = true) : impl_LabelMeet.f a b = some (Mt a b) := by
  obtain ⟨x, rfl⟩ := fin8 ha
  obtain ⟨y, rfl⟩ := fin8 hb
  exact iMeet8 x y
theorem U_l {a b : Int} (h : U a b = true) : isL a = true ∧ isL b = true := by simp [U] at h; exact ⟨h.1, h.2.1⟩
theorem U_tr8 : ∀ x y z : Fin 8, U (x.val : Int) y.val = true → U (y.val : Int) z.val = true → U (x.val : Int) z.val = true := by decide +kernel
theorem U_tr {a b c : Int} (h : U a b = true) (k : U b c = true) : U a c = true := by
  obtain ⟨x, rfl⟩ := fin8 (U_l h).1
  obtain ⟨y, rfl⟩ := fin8 (U_l h).2
  obtain ⟨z, rfl⟩ := fin8 (U_l k).2
  exact U_tr8 x y z h k
theorem U_mt8 : ∀ x y z : Fin 8, (U (x.val : Int) y.val && U (x.val : Int) z.val) = U x.val (Mt y.val z.val) := by decide +kernel
theorem U_mt {a c o : Int} (hc : isL c = true) (ho : isL o = true) : (U a c && U a o) = U a (Mt c o) := by
  by_cases h : isL a = true
  · obtain ⟨x, rfl⟩ := fin8 h
    obtain ⟨y, rfl⟩ := fin8 hc
    obtain ⟨z, rfl⟩ := fin8 ho
    exact U_mt8 x y z
  · simp [U, h]
theorem U_all8 : ∀ x : Fin 8, U (x.val : Int) 7 = true := by decide +kernel
theorem U_all {a : Int} (h : isL a = true) : U a 7 = true := by
  obtain ⟨x, rfl⟩ := fin8 h
  exact U_all8 x
theorem Asc_low : ∀ (xs : List S36) (l l' : Int), l' ≤ l → Asc xs l = true → Asc xs l' = true
  | [], _, _, _, _ => rfl
  | x :: xs, l, l', h, k => by
    simp only [Asc, Bool.and_eq_true, decide_eq_true_eq] at k ⊢
    exact ⟨by omega, k.2⟩
theorem Asc_fil (p : S36 → Bool) : ∀ (xs : List S36) (l : Int), Asc xs l = true → Asc (xs.filter p) l = true
  | [], _, _ => rfl
  | x :: xs, l, k => by
    simp only [Asc, Bool.and_eq_true, decide_eq_true_eq] at k
    have ih := Asc_fil p xs _ k.2
    by_cases c : p x = true
    · rw [List.filter_cons_of_pos c]
      simp only [Asc, Bool.and_eq_true, decide_eq_true_eq]
      exact ⟨k.1, ih⟩
    · rw [List.filter_cons_of_neg c]
      exact Asc_low _ _ _ (by omega) ih
theorem Lt_tr {a b c : S56} (ha : Eo a = true) (hb : Eo b = true) (hc : Eo c = true) (h : Lt a b = true) (k : Lt b c = true) : Lt a c = true := by
  obtain ⟨_, a1, a2, _⟩ := Eo_iff.1 ha
  obtain ⟨_, b1, b2, _⟩ := Eo_iff.1 hb
  obtain ⟨_, c1, c2, _⟩ := Eo_iff.1 hc
  have i1 := Cd_inj a1 b1
  have i2 := Cd_inj b1 c1
  have i3 := Cd_inj a1 c1
  have cd : ∀ {a b : Int}, nOk a b = true → Cd a b = 64 * a + b := fun h => by unfold Cd; rw [if_pos h]
  unfold Lt at h k ⊢
  rw [cd a1, cd a2, cd b1, cd b2] at h
  rw [cd b1, cd b2, cd c1, cd c2] at k
  rw [cd a1, cd a2, cd c1, cd c2]
  by_cases e1 : a.f0 = b.f0
  · by_cases e2 : b.f0 = c.f0
    · rw [if_pos e1] at h
      rw [if_pos e2] at k
      rw [if_pos (e1.trans e2)]
      by_cases d1 : a.f1.f0 = b.f1.f0 ∧ a.f1.f1 = b.f1.f1
      · by_cases d2 : b.f1.f0 = c.f1.f0 ∧ b.f1.f1 = c.f1.f1
        · rw [if_pos d1] at h; rw [if_pos d2] at k
          rw [if_pos ⟨d1.1.trans d2.1, d1.2.trans d2.2⟩]
          simp at h k ⊢; omega
        · rw [if_neg d2] at k
          rw [if_neg (fun q => d2 ⟨d1.1.symm.trans q.1, d1.2.symm.trans q.2⟩)]
          simp at k ⊢; omega
      · rw [if_neg d1] at h
        by_cases d2 : b.f1.f0 = c.f1.f0 ∧ b.f1.f1 = c.f1.f1
        · rw [if_neg (fun q => d1 ⟨q.1.trans d2.1.symm, q.2.trans d2.2.symm⟩)]
          simp at h ⊢; omega
        · rw [if_neg d2] at k
          simp at h k
          rw [if_neg (fun q => by have := i3.2 q; omega)]
          simp; omega
    · rw [if_neg e2] at k
      rw [if_neg (fun q => e2 (e1.symm.trans q))]
      simp at k ⊢; omega
  · rw [if_neg e1] at h
    by_cases e2 : b.f0 = c.f0
    · rw [if_neg (fun q => e1 (q.trans e2.symm))]
      simp at h ⊢; omega
    · rw [if_neg e2] at k
      simp at h k
      rw [if_neg (fun q => by omega)]
      simp; omega
theorem EAsc_in (ns ns' : List S36) : ∀ (es : List S56) (p p' : Option S56) (c : Int), (∀ a b, In ns a b = true → U a c = true → In ns' a b = true) →
    (∀ q', p' = some q' → Eo q' = true ∧ (p = some q' ∨ ∃ q, p = some q ∧ Eo q = true ∧ Lt q' q = true)) → EAsc ns es p = true → EAsc ns' (vE c es) p' = true := by
  intro es
  induction es with
  | nil => intro p p' c _ _ _; rfl
  | cons e es ih =>
    intro p p' c hi hp h
    simp only [EAsc, Bool.and_eq_true] at h
    obtain ⟨h1, h2, h3, h4, h5⟩ := h
    have lt' : ∀ q', p' = some q' → Lt q' e = true := by
      intro q' hq
      obtain ⟨o, r⟩ := hp q' hq
      rcases r with r | ⟨q, r, oq, l⟩
      · subst r; exact h2
      · subst r; exact Lt_tr o oq h1 l h2
    by_cases c1 : U e.f0 c = true
    · rw [vE_pos c1]
      obtain ⟨_, _, _, _, u1, u2⟩ := Eo_iff.1 h1
      simp only [EAsc, Bool.and_eq_true]
      refine ⟨h1, ?_, hi _ _ h3 (U_tr u1 c1), hi _ _ h4 (U_tr u2 c1), ih (some e) (some e) c hi (fun q' hq => by cases hq; exact ⟨h1, .inl rfl⟩) h5⟩
      cases p' with
      | none => rfl
      | some q' => exact lt' q' rfl
    · rw [vE_neg c1]
      exact ih (some e) p' c hi (fun q' hq => ⟨(hp q' hq).1, .inr ⟨e, rfl, h1, lt' q' hq⟩⟩) h5
theorem GOk_view {ns : List S36} {es : List S56} {c : Int} (h : GOk ns es = true) (hc : isL c = true) : GOk (vN c ns) (vE c es) = true := by
  simp only [GOk, Bool.and_eq_true] at h ⊢
  obtain ⟨h1, h2, h3⟩ := h
  refine ⟨Asc_fil _ _ _ h1, EAsc_in ns (vN c ns) es none none c (fun a b hi u => ?_) (fun q' hq => by cases hq) h2, ?_⟩
  · unfold In at hi ⊢
    rw [List.any_eq_true] at hi ⊢
    obtain ⟨x, hx, e⟩ := hi
    refine ⟨x, ?_, e⟩
    simp only [vN, List.mem_filter]
    refine ⟨hx, ?_⟩
    simp at e
    rw [e.1]; exact u
  · unfold Few at h3 ⊢
    rw [List.all_eq_true] at h3 ⊢
    intro a ha
    have := h3 a ha
    simp only [Bool.and_eq_true, decide_eq_true_eq] at this ⊢
    constructor
    · refine Nat.le_trans ?_ this.1
      simp only [vN, cN]
      exact (List.filter_sublist.filter _).length_le
    · refine Nat.le_trans ?_ this.2
      simp only [vE, cE]
      exact (List.filter_sublist.filter _).length_le
theorem GV_view {ns : List S36} {es : List S56} {c o : Int} (h : GOk ns es = true) (hc : isL c = true) (ho : isL o = true) : GV (vN c ns) (vE c es) o = GV ns es (Mt c o) := by
  unfold GV
  rw [if_pos h, if_pos (GOk_view h hc)]
  simp only [vN, vE, List.filter_filter]
  congr 1
  · apply List.filter_congr; intro x _; rw [Bool.and_comm]; exact U_mt hc ho
  · apply List.filter_congr; intro x _; rw [Bool.and_comm]; exact U_mt hc ho
theorem GV_all {ns : List S36} {es : List S56} (h : GOk ns es = true) : GV ns es 7 = (ns, es) := by
  unfold GV
  rw [if_pos h]
  simp only [GOk, Bool.and_eq_true] at h
  simp only [vN, vE]
  congr 1
  · rw [List.filter_eq_self]; intro x hx; exact U_all (nOk_l (Asc_ok ns (-1) (by omega) h.1 x hx).1)
  · rw [List.filter_eq_self]; intro x hx
    have := (Eo_iff.1 (EAsc_ok ns es none h.2.1 x hx)).1
    exact U_all (by simp [isL]; omega)

/-- The letters that either has. -/
def Jo (a b : Int) : Int := ((a.toNat ||| b.toNat : Nat) : Int)
theorem iJoin8 : ∀ x y : Fin 8, impl_LabelJoin.f (x.val : Int) (y.val : Int) = some (Jo x.val y.val) := by decide +kernel
theorem iJoin {a b : Int} (ha : isL a = true) (hb : isL b = true) : impl_LabelJoin.f a b = some (Jo a b) := by
  obtain ⟨x, rfl⟩ := fin8 ha
  obtain ⟨y, rfl⟩ := fin8 hb
  exact iJoin8 x y
theorem U_jo8 : ∀ x y z : Fin 8, ((U (x.val : Int) y.val || U (x.val : Int) z.val) = true → U x.val (Jo y.val z.val) = true) := by decide +kernel
theorem U_jo {a c o : Int} (hc : isL c = true) (ho : isL o = true) (h : (U a c || U a o) = true) : U a (Jo c o) = true := by
  have ha : isL a = true := by
    rw [Bool.or_eq_true] at h
    rcases h with h | h <;> exact (U_l h).1
  obtain ⟨x, rfl⟩ := fin8 ha
  obtain ⟨y, rfl⟩ := fin8 hc
  obtain ⟨z, rfl⟩ := fin8 ho
  exact U_jo8 x y z h
theorem wpAt_l0 (xs : List S36) (es : List S56) (a b : Int) (hm : xs.length ≤ 2097152) : ∀ (d k i : Nat), i + d = xs.length → d < k → ∃ r, laws_wpAt.l0 k i xs es a b = some r ∧ decide (r ≥ 0) = In (xs.drop i) a b := by
  intro d
  induction d with
  | zero =>
    intro k i hd hk
    obtain ⟨k, rfl⟩ : ∃ m, k = m + 1 := ⟨k - 1, by omega⟩
    refine ⟨-1, ?_, ?_⟩
    · simp only [laws_wpAt.l0]; rw [if_neg (by omega)]
    · rw [List.drop_of_length_le (by omega)]; rfl
  | succ d ih =>
    intro k i hd hk
    obtain ⟨k, rfl⟩ : ∃ m, k = m + 1 := ⟨k - 1, by omega⟩
    have hi : i < xs.length := by omega
    simp only [laws_wpAt.l0]
    rw [if_pos (by omega), if_pos (by omega), rdT_at hi, w64 (x := (i : Int) + 1) (by omega), show (i : Int) + 1 = ((i + 1 : Nat) : Int) by omega, List.drop_eq_getElem_cons hi]
    by_cases c : ((xs[i]).f0 == a && (xs[i]).f1 == b) = true
    · rw [if_pos c]
      refine ⟨i, rfl, ?_⟩
      unfold In
      rw [List.any_cons, c]; simp
    · rw [if_neg c]
      obtain ⟨r, h1, h2⟩ := ih k (i + 1) (by omega) (by omega)
      refine ⟨r, h1, ?_⟩
      rw [h2]
      simp only [Bool.not_eq_true] at c
      unfold In
      rw [List.any_cons, c, Bool.false_or]
theorem In_view {ns : List S36} {x : S36} (h : x ∈ ns) (c : Int) : In (vN c ns) x.f0 x.f1 = U x.f0 c := by
  unfold In
  rw [Bool.eq_iff_iff, List.any_eq_true]
  constructor
  · rintro ⟨y, hy, e⟩
    simp only [vN, List.mem_filter] at hy
    simp only [Bool.and_eq_true, beq_iff_eq] at e
    rw [← e.1]; exact hy.2
  · intro u
    exact ⟨x, by simp only [vN, List.mem_filter]; exact ⟨h, u⟩, by simp⟩
theorem wpAt_view {ns : List S36} {x : S36} (h : x ∈ ns) (c : Int) (es : List S56) (hm : ns.length ≤ 2097152) (k : Nat) (hk : ns.length + 1 < k) : ∃ r, laws_wpAt.f k (vN c ns) es x.f0 x.f1 = some r ∧ decide (r ≥ 0) = U x.f0 c := by
  have hl : (vN c ns).length ≤ ns.length := List.length_filter_le _ _
  obtain ⟨r, h1, h2⟩ := wpAt_l0 (vN c ns) es x.f0 x.f1 (by omega) (vN c ns).length k 0 (by omega) (by omega)
  refine ⟨r, h1, ?_⟩
  rw [h2, List.drop_zero, In_view h]
theorem both {α : Type} (p q : α → Bool) : ∀ xs : List α, xs.countP (fun x => p x || q x) + xs.countP (fun x => p x && q x) = xs.countP p + xs.countP q := by
  intro xs
  induction xs with
  | nil => rfl
  | cons x xs ih =>
    simp only [List.countP_cons]
    cases p x <;> cases q x <;> simp <;> omega
theorem w1s (i : Nat) (h : i ≤ 1099511627776) : wrap64 ((i : Int) + 1) = ((i + 1 : Nat) : Int) := by rw [w64 (x := (i : Int) + 1) (by omega)]; omega
theorem loop_u (ns : List S36) (a b : Int) (ha : isL a = true) (hb : isL b = true) (hm : ns.length ≤ 2097152) (ve we je me : List S56) (js : List S36) (hjs : ∀ x ∈ js, x ∈ ns) (hj : js.length ≤ ns.length) (he : Aside0 ((wrap64 ((wrap64 ((ve.length : Int) + (we.length : Int))) - (me.length : Int))) ≤ (je.length : Int)))
    (E : Int) (hE : Aside0 (E = wrap64 ((wrap64 (((vN a ns).length : Int) + ((vN b ns).length : Int))) - ((vN (Mt a b) ns).length : Int)))) :
    ∀ (d k i n : Nat), i + d = js.length → n ≤ i → 2 * d + ns.length + 4 < k → (((n + (js.drop i).countP (fun x => U x.f0 a || U x.f0 b) : Nat) : Int) = E) →
      laws_FnGraphUnion.l0 k n i (vN a ns) ve (vN b ns) we js je (vN (Mt a b) ns) me = some true := by
  intro d
  induction d with
  | zero =>
    intro k i n hd hn hk hc
    obtain ⟨k, rfl⟩ : ∃ m, k = m + 1 := ⟨k - 1, by omega⟩
    rw [List.drop_of_length_le (by omega)] at hc
    simp only [List.countP_nil, Nat.add_zero] at hc
    rw [laws_FnGraphUnion.l0]
    rw [if_neg (by omega), if_pos (hc.trans hE.out), decide_eq_true he.out]
  | succ d ih =>
    intro k i n hd hn hk hc
    obtain ⟨k, rfl⟩ : ∃ m, k = m + 2 := ⟨k - 2, by omega⟩
    have hi : i < js.length := by omega
    rw [List.drop_eq_getElem_cons hi, List.countP_cons] at hc
    have hx := hjs _ (List.getElem_mem hi)
    obtain ⟨r1, p1, p2⟩ := wpAt_view hx a ve hm (k + 1) (by omega)
    obtain ⟨r2, q1, q2⟩ := wpAt_view hx b we hm (k + 1) (by omega)
    obtain ⟨r3, s1, s2⟩ := wpAt_view hx (Mt a b) me hm (k + 1) (by omega)
    have hu := U_mt (a := (js[i]).f0) ha hb
    have nx := ih k (i + 1)
    rw [laws_FnGraphUnion.l0]
    rw [if_pos (by omega), if_pos (by omega), rdT_at hi, p1, q1, s1]
    simp only [Option.bind_some]
    rw [p2, q2, s2, ← hu]
    by_cases c1 : r1 ≥ 0
    · rw [if_pos c1]
      rw [decide_eq_true c1] at p2
      rw [← p2] at hc ⊢
      rw [laws_FnGraphUnion.j3]
      rw [Bool.true_and, bne_self_eq_false, if_neg (by simp), if_pos rfl, w1s i (by omega), w1s n (by omega)]
      exact nx (n + 1) (by omega) (by omega) (by omega) (by rw [← hc]; simp; omega)
    · rw [if_neg c1]
      rw [decide_eq_false c1] at p2
      rw [← p2] at hc ⊢
      rw [laws_FnGraphUnion.j3]
      rw [Bool.false_and, bne_self_eq_false, if_neg (by simp), if_neg (by simp)]
      by_cases c2 : U (js[i]).f0 b = true
      · rw [if_pos c2, w1s i (by omega), w1s n (by omega)]
        rw [c2] at hc
        exact nx (n + 1) (by omega) (by omega) (by omega) (by rw [← hc]; simp; omega)
      · rw [if_neg c2, w1s i (by omega)]
        simp only [Bool.not_eq_true] at c2
        rw [c2] at hc
        exact nx n (by omega) (by omega) (by omega) (by rw [← hc]; simp)
theorem FnGraphUnion : laws_FnGraphUnion.Pure := by
  intro l l1 _ hl _ hl1
  refine ⟨2000, ?_⟩
  have main : laws_FnGraphUnion.j0 2000 l l1 false = some true := by
    obtain ⟨ns, es, a, h, hn, hm⟩ := view_drawn l (u8B hl) 1999 (by omega)
    obtain ⟨ns2, es2, b, h', _, _⟩ := view_drawn l1 (u8B hl1) 1999 (by omega)
    have g := GV_len ns es a
    have S := fun (k : Nat) (hk : 1500 ≤ k) => same_self (GV ns es a).1 (GV ns es a).2 (by omega) (by omega) k (by omega)
    have V := fun (c : Int) (k : Nat) (hk : 1500 ≤ k) => iGV ns es c (show ns.length ≤ 2097152 by omega) (show es.length ≤ 2097152 by omega) k (by omega)
    have V' := sGV ns es a (show ns.length ≤ 2097152 by omega) (show es.length ≤ 2097152 by omega)
    have out : laws_FnGraphUnion.j1 1999 a b true ns es (GV ns es a).1 (GV ns es a).2 = some true := by
      simp only [laws_FnGraphUnion.j1, if_true, V' 1998 (by omega), S 1998 (by omega), Option.bind_some]
    simp only [laws_FnGraphUnion.j0, Bool.false_eq_true, if_false, h, h', Option.bind_some, V a 1999 (by omega), V' 1999 (by omega), S 1999 (by omega), if_true,
      sGraphOk_ok ns es (show ns.length ≤ 2097152 by omega) (show es.length ≤ 2097152 by omega) 1999 (by omega), iIs]
    by_cases hG : GOk ns es = true
    · rw [if_pos hG]
      by_cases ha : isL a = true
      · rw [if_pos ha]
        by_cases hb : isL b = true
        · rw [hb]
          simp only [laws_FnGraphUnion.j1, Bool.not_true, Bool.false_eq_true, if_false, V _ 1998 (by omega), iJoin ha hb, iMeet ha hb, Option.bind_some]
          have eG : ∀ c, GV ns es c = (vN c ns, vE c es) := fun c => by unfold GV; rw [if_pos hG]
          simp only [eG]
          have L : ∀ c, (vN c ns).length = ns.countP (fun x => U x.f0 c) := fun c => by rw [List.countP_eq_length_filter]; rfl
          have LE : ∀ c, (vE c es).length = es.countP (fun x => U x.f0 c) := fun c => by rw [List.countP_eq_length_filter]; rfl
          have lle : ∀ c, (vN c ns).length ≤ ns.length := fun c => List.length_filter_le _ _
          have lee : ∀ c, (vE c es).length ≤ es.length := fun c => List.length_filter_le _ _
          have n0 := both (fun x : S36 => U x.f0 a) (fun x => U x.f0 b) ns
          have e0 := both (fun x : S56 => U x.f0 a) (fun x => U x.f0 b) es
          simp only [U_mt ha hb] at n0 e0
          rw [← L, ← L, ← L] at n0
          rw [← LE, ← LE, ← LE] at e0
          have e1 : es.countP (fun x => U x.f0 a || U x.f0 b) ≤ (vE (Jo a b) es).length := by
            rw [LE]; exact List.countP_mono_left fun x _ hx => U_jo ha hb hx
          have n1 : (vN (Jo a b) ns).countP (fun x => U x.f0 a || U x.f0 b) = ns.countP (fun x => U x.f0 a || U x.f0 b) := by
            unfold vN; rw [List.countP_filter]
            refine List.countP_congr fun x _ => ?_
            constructor
            · intro q; simp only [Bool.and_eq_true] at q; exact q.1
            · intro q; simp only [Bool.and_eq_true]; exact ⟨q, U_jo ha hb q⟩
          have la := lle a; have lb := lle b; have lm := lle (Mt a b); have lj := lle (Jo a b)
          have ka := lee a; have kb := lee b; have km := lee (Mt a b); have kj := lee (Jo a b)
          refine loop_u ns a b ha hb (by omega) (vE a es) (vE b es) (vE (Jo a b) es) (vE (Mt a b) es) (vN (Jo a b) ns) (fun x hx => by simp only [vN, List.mem_filter] at hx; exact hx.1) lj ⟨?_⟩ _ ⟨rfl⟩ (vN (Jo a b) ns).length 1998 0 0 (by omega) (by omega) (by omega) ?_
          · rw [w64 (x := ((vE a es).length : Int) + (vE b es).length) (by omega), w64 (by omega)]; omega
          · rw [List.drop_zero, n1, w64 (x := ((vN a ns).length : Int) + (vN b ns).length) (by omega), w64 (by omega)]; omega
        · simp only [Bool.not_eq_true] at hb
          rw [hb]; exact out
      · rw [if_neg ha]; exact out
    · rw [if_neg hG]; exact out
  unfold laws_FnGraphUnion.f
  by_cases c : (l.length : Int) > 1048576
  · rw [if_pos c]; simp [laws_FnGraphUnion.j0]
  rw [if_neg c]
  by_cases c2 : (l1.length : Int) > 1048576
  · rw [decide_eq_true c2]; simp [laws_FnGraphUnion.j0]
  · rw [decide_eq_false c2]; exact main

end Go.Proofs.Ytohmemckdogljaa.Pure
