/- The plain law behind FnGraphBent: whatever is drawn, both sides tell the same, and a bent graph is none. -/
import Derived.Test.YtohmemckdogljaaQFnGraphBentOpen
namespace Go.Proofs.Ytohmemckdogljaa.Pure
open Go.RowKit Go.Proofs.Ytohmemckdogljaa.QFnGraphBent Go.Proofs.YtohmemckdogljaaW.PrintWords Go.Proofs.YtohmemckdogljaaW.PrintLast
set_option linter.unusedSimpArgs false
set_option linter.unusedVariables false

open Go.Proofs.Ytohmemckdogljaa.Bl
theorem w64 {x : Int} (h : -9223372036854775808 ≤ x ∧ x ≤ 9223372036854775807) : wrap64 x = x := by unfold wrap64; omega
theorem rdB {b : List Int} (hb : ∀ x ∈ b, 0 ≤ x ∧ x ≤ 255) (i : Int) : 0 ≤ rd b i ∧ rd b i ≤ 255 := by
  unfold rd
  rw [List.getD_eq_getElem?_getD]
  cases h : b[i.toNat]? with
  | none => simp
  | some v => exact hb v (List.mem_of_getElem? h)
theorem u8B {l : List Int} (h : ∀ x ∈ l, (Lit.int .u8 x).wf = true) : ∀ x ∈ l, 0 ≤ x ∧ x ≤ 255 := fun x hx => by
  have := h x hx
  simp [Lit.wf, IntKind.min, IntKind.max, IntKind.signed, IntKind.bits] at this
  omega

theorem xor_nn {x y : Int} (hx : 0 ≤ x) (hx1 : x < 4611686018427387904) (hy : 0 ≤ y) (hy1 : y < 4611686018427387904) : 0 ≤ Go.bits .xor .i64 x y := by
  obtain ⟨a, rfl⟩ := Int.eq_ofNat_of_zero_le hx
  obtain ⟨b, rfl⟩ := Int.eq_ofNat_of_zero_le hy
  have ha : a < 2 ^ 62 := by omega
  have hb : b < 2 ^ 62 := by omega
  have hab : a ^^^ b < 2 ^ 62 := Nat.xor_lt_two_pow ha hb
  have ea : a % 2 ^ IntKind.i64.bits = a := Nat.mod_eq_of_lt (by simp [IntKind.bits]; omega)
  have eb : b % 2 ^ IntKind.i64.bits = b := Nat.mod_eq_of_lt (by simp [IntKind.bits]; omega)
  simp only [Go.bits, BitVec.ofInt_natCast, BitVec.toNat_xor, BitVec.toNat_ofNat, ea, eb]
  rw [IntKind.wrap_i64]
  omega

theorem pick_ok (k : Nat) (hk : 1 ≤ k) (b : List Int) (p n : Int) (hb : ∀ x ∈ b, 0 ≤ x ∧ x ≤ 255) (hp0 : 0 ≤ p) (hp : p ≤ 1000000) (hn : 1 ≤ n) :
    ∃ v, spec_l9Rd_pick.f k b p n = some (v, p + 1) ∧ 0 ≤ v ∧ v < n := by
  obtain ⟨k, rfl⟩ : ∃ m, k = m + 1 := ⟨k - 1, by omega⟩
  have w1 : wrap64 (p + 1) = p + 1 := w64 (by omega)
  have w2 : wrap64 (p + 1 - 1) = p := by rw [Int.add_sub_cancel]; exact w64 (by omega)
  unfold spec_l9Rd_pick.f
  rw [if_neg (by omega), w1]
  by_cases he : (b.length : Int) = 0
  · rw [show ((b.length : Int) == 0) = true by simpa using he]
    exact ⟨0, by simp [spec_l9Rd_pick.j0], by omega, by omega⟩
  · rw [show ((b.length : Int) == 0) = false by simpa using he]
    simp only [spec_l9Rd_pick.j0, w2]
    rw [if_neg (by decide)]
    by_cases h1 : p < (b.length : Int)
    · rw [if_pos h1, if_pos hp0, if_neg (by omega), w64 (x := rd b p) (by have := rdB hb p; omega)]
      exact ⟨_, rfl, Int.tmod_nonneg _ (rdB hb p).1, Int.tmod_lt_of_pos _ (by omega)⟩
    · have hl : (0 : Int) < b.length := by omega
      rw [if_neg h1, if_neg he]
      have m0 : 0 ≤ Int.tmod p b.length := Int.tmod_nonneg _ hp0
      have m1 : Int.tmod p b.length < b.length := Int.tmod_lt_of_pos _ hl
      have w3 : wrap64 (wrap64 (p * 7) + 3) = p * 7 + 3 := by rw [w64 (x := p * 7) (by omega)]; exact w64 (by omega)
      have m2 : 0 ≤ Int.tmod (p * 7 + 3) b.length := Int.tmod_nonneg _ (by omega)
      have m3 : Int.tmod (p * 7 + 3) b.length < b.length := Int.tmod_lt_of_pos _ hl
      rw [if_pos m0, if_pos m1, w3, if_pos m2, if_pos m3, if_neg (by omega)]
      have r1 := rdB hb (Int.tmod p b.length)
      have r2 := rdB hb (Int.tmod (p * 7 + 3) b.length)
      have d0 : 0 ≤ Int.tdiv p b.length := Int.tdiv_nonneg hp0 (by omega)
      have d1 : Int.tdiv p b.length ≤ p := Int.tdiv_le_self _ hp0
      generalize rd b (Int.tmod p b.length) = R1 at *
      generalize rd b (Int.tmod (p * 7 + 3) b.length) = R2 at *
      generalize Int.tdiv p b.length = D at *
      rw [w64 (x := R1) (by omega), w64 (x := R2) (by omega), w64 (x := D) (by omega), w64 (x := R1 * 131) (by omega), w64 (x := R2 * 1117) (by omega), w64 (x := p * 29) (by omega), w64 (x := D * 53) (by omega), w64 (x := R1 * 131 + R2 * 1117) (by omega),
        w64 (x := R1 * 131 + R2 * 1117 + p * 29) (by omega), w64 (x := R1 * 131 + R2 * 1117 + p * 29 + D * 53) (by omega)]
      have x0 : 0 ≤ R1 * 131 + R2 * 1117 + p * 29 + D * 53 := by omega
      have x1 : R1 * 131 + R2 * 1117 + p * 29 + D * 53 < 4611686018427387904 := by omega
      generalize R1 * 131 + R2 * 1117 + p * 29 + D * 53 = X at *
      have y0 : 0 ≤ Int.tdiv X 64 := Int.tdiv_nonneg x0 (by decide)
      have y1 : Int.tdiv X 64 ≤ X := Int.tdiv_le_self _ x0
      rw [w64 (x := Int.tdiv X 64) (by omega)]
      exact ⟨_, rfl, Int.tmod_nonneg _ (xor_nn x0 x1 y0 (by omega)), Int.tmod_lt_of_pos _ (by omega)⟩
theorem open_ok (l : List Int) (hl : ∀ x ∈ l, 0 ≤ x ∧ x ≤ 255) : ∃ b, spec_l9Open.f l = some (b, 0) ∧ ∀ x ∈ b, 0 ≤ x ∧ x ≤ 255 := by
  unfold spec_l9Open.f
  by_cases h : (l.length : Int) > 2000
  · rw [if_pos h, if_pos (by omega)]
    exact ⟨_, rfl, fun x hx => hl x (List.mem_of_mem_take hx)⟩
  · rw [if_neg h]; exact ⟨_, rfl, hl⟩

theorem num_ok (k : Nat) (hk : 1 ≤ k) (b : List Int) (p : Int) (l : List Int) (hb : ∀ x ∈ b, 0 ≤ x ∧ x ≤ 255) (hp0 : 0 ≤ p) (hp : p ≤ 1000000) (hn : 1 ≤ l.length) :
    ∃ v, spec_l9Rd_num.f k b p l = some (v, p + 1) ∧ v ∈ l := by
  obtain ⟨v, hv, v0, v1⟩ := pick_ok k hk b p (l.length : Int) hb hp0 hp (by omega)
  unfold spec_l9Rd_num.f
  rw [hv]
  simp only [Option.bind_some]
  rw [if_pos v0, if_pos v1]
  refine ⟨_, rfl, ?_⟩
  unfold rd
  rw [List.getD_eq_getElem?_getD, List.getElem?_eq_getElem (by omega)]
  exact List.getElem_mem _

/-- Nodes are right and ascend, from a number on. -/
def Asc : List S36 → Int → Bool
  | [], _ => true
  | x :: xs, last => decide (last < Cd x.f0 x.f1) && Asc xs (Cd x.f0 x.f1)
/-- How many nodes there are of a label. -/
def cN (a : Int) (xs : List S36) : Nat := (xs.filter fun x => x.f0 == a).length
def cE (a : Int) (xs : List S56) : Nat := (xs.filter fun x => x.f0 == a).length
/-- Nodes as the program goes through them. -/
def NR : List S36 → Int → List Int → Bool
  | [], _, _ => true
  | x :: xs, last, m => if Cd x.f0 x.f1 ≤ last then false else if rd m x.f0 = 5 then false else NR xs (Cd x.f0 x.f1) (m.set x.f0.toNat (wrap64 (rd m x.f0 + 1)))
theorem rdT_at {xs : List S36} {i : Nat} (h : i < xs.length) : rd_T36 xs (i : Int) = xs[i] := by
  unfold rd_T36; rw [Int.toNat_natCast, List.getD_eq_getElem?_getD, List.getElem?_eq_getElem h]; rfl
theorem rdE_at {xs : List S56} {i : Nat} (h : i < xs.length) : rd_T56 xs (i : Int) = xs[i] := by
  unfold rd_T56; rw [Int.toNat_natCast, List.getD_eq_getElem?_getD, List.getElem?_eq_getElem h]; rfl
theorem nodesOk_l0 (xs : List S36) (hm : xs.length ≤ 2097152) : ∀ (d k : Nat) (i : Nat) (last : Int) (m : List Int), i + d = xs.length → d < k → impl_nodesOk.l0 k xs last m i = some (NR (xs.drop i) last m) := by
  intro d
  induction d with
  | zero =>
    intro k i last m hd hk
    obtain ⟨k, rfl⟩ : ∃ m, k = m + 1 := ⟨k - 1, by omega⟩
    simp only [impl_nodesOk.l0]
    rw [if_neg (by omega), List.drop_of_length_le (by omega)]; rfl
  | succ d ih =>
    intro k i last m hd hk
    obtain ⟨k, rfl⟩ : ∃ m, k = m + 1 := ⟨k - 1, by omega⟩
    have hi : i < xs.length := by omega
    simp only [impl_nodesOk.l0]
    rw [if_pos (by omega), if_pos (by omega), rdT_at hi, List.drop_eq_getElem_cons hi]
    simp only [NR]
    have e := ih k (i + 1)
    rw [show ((i + 1 : Nat) : Int) = (i : Int) + 1 by omega] at e
    rw [w64 (x := (i : Int) + 1) (by omega)]
    split
    · rfl
    · split
      · rfl
      · exact e _ _ (by omega) (by omega)
/-- The counts hold what they should, and none is over five. -/
theorem NR_eq : ∀ (xs : List S36) (last : Int) (m : List Int), -1 ≤ last → m.length = 8 → (∀ a : Nat, a < 8 → 0 ≤ rd m a ∧ rd m a ≤ 5) →
    NR xs last m = (Asc xs last && (List.range 8).all fun a => decide (rd m a + cN a xs ≤ 5))
  | [], last, m, h0, hl, hm => by
    have : ((List.range 8).all fun a => decide (rd m a + cN a ([] : List S36) ≤ 5)) = true := by
      rw [List.all_eq_true]
      intro a ha
      have := hm a (List.mem_range.1 ha)
      simp [cN]; omega
    rw [this]; rfl
  | x :: xs, last, m, h0, hl, hm => by
    simp only [NR, Asc]
    by_cases c : Cd x.f0 x.f1 ≤ last
    · rw [if_pos c, decide_eq_false (by omega)]; rfl
    · rw [if_neg c, decide_eq_true (by omega : last < Cd x.f0 x.f1), Bool.true_and]
      obtain ⟨e1, e2, e3, e4, e5⟩ := Cd_ok (a := x.f0) (b := x.f1) (by omega)
      obtain ⟨j, hj⟩ := Int.eq_ofNat_of_zero_le e2
      rw [hj]
      have hj8 : j < 8 := by omega
      have hmj := hm j hj8
      by_cases c2 : rd m (j : Int) = 5
      · rw [if_pos c2]
        have : ((List.range 8).all fun a => decide (rd m a + cN a (x :: xs) ≤ 5)) = false := by
          rw [List.all_eq_false]
          refine ⟨j, List.mem_range.2 hj8, ?_⟩
          have : 1 ≤ cN (j : Int) (x :: xs) := by simp [cN, hj]
          simp; omega
        rw [this, Bool.and_false]
      · rw [if_neg c2, ← hj, w64 (x := rd m x.f0 + 1) (by rw [hj]; omega)]
        have hr : ∀ a : Nat, a < 8 → rd (m.set x.f0.toNat (rd m x.f0 + 1)) a = if a = j then rd m a + 1 else rd m a := by
          intro a ha
          rw [hj, Int.toNat_natCast]
          unfold rd
          simp only [Int.toNat_natCast, List.getD_eq_getElem?_getD, List.getElem?_set]
          by_cases q : j = a
          · subst q; simp [hl, hj8]
          · rw [if_neg q, if_neg (fun h => q h.symm)]
        rw [NR_eq xs (Cd x.f0 x.f1) _ (by omega) (by simpa using hl) (fun a ha => by
          rw [hr a ha]; have := hm a ha; split
          · rename_i q; subst q; omega
          · omega)]
        congr 1
        apply Bool.eq_iff_iff.2
        rw [List.all_eq_true, List.all_eq_true]
        have hc : ∀ a : Nat, a < 8 → (rd (m.set x.f0.toNat (rd m x.f0 + 1)) a + cN a xs = rd m a + cN a (x :: xs)) := by
          intro a ha
          rw [hr a ha]
          by_cases q : a = j
          · subst q; rw [if_pos rfl]; simp [cN, hj]; omega
          · rw [if_neg q]
            have : ¬ ((x.f0 == (a : Int)) = true) := by rw [hj]; simp; omega
            simp [cN, List.filter_cons, this]
        constructor
        · intro h a ha; have := h a ha; have e := hc a (List.mem_range.1 ha); simp at this ⊢; omega
        · intro h a ha; have := h a ha; have e := hc a (List.mem_range.1 ha); simp at this ⊢; omega
theorem Asc_ok : ∀ (xs : List S36) (last : Int), -1 ≤ last → Asc xs last = true → ∀ x ∈ xs, nOk x.f0 x.f1 = true ∧ last < Cd x.f0 x.f1
  | [], _, _, _, x, hx => by cases hx
  | y :: xs, last, h0, h, x, hx => by
    simp only [Asc, Bool.and_eq_true, decide_eq_true_eq] at h
    have c := Cd_ok (a := y.f0) (b := y.f1) (by omega)
    rcases List.mem_cons.1 hx with rfl | hx
    · exact ⟨nOk_iff.2 ⟨⟨c.2.1, c.2.2.1⟩, ⟨c.2.2.2.1, c.2.2.2.2⟩⟩, h.1⟩
    · have := Asc_ok xs _ (by omega) h.2 x hx
      exact ⟨this.1, by omega⟩
theorem len_sum : ∀ (xs : List S36), (∀ x ∈ xs, 0 ≤ x.f0 ∧ x.f0 ≤ 7) → xs.length = cN 0 xs + cN 1 xs + cN 2 xs + cN 3 xs + cN 4 xs + cN 5 xs + cN 6 xs + cN 7 xs
  | [], _ => by simp [cN]
  | x :: xs, h => by
    have ih := len_sum xs (fun y hy => h y (List.mem_cons_of_mem _ hy))
    have hx := h x (List.mem_cons_self ..)
    have e : ∀ a : Int, cN a (x :: xs) = cN a xs + if x.f0 = a then 1 else 0 := by
      intro a
      by_cases c : x.f0 = a
      · simp [cN, List.filter_cons, c]
      · simp [cN, List.filter_cons, c]
    simp only [e, List.length_cons]
    rcases (show x.f0 = 0 ∨ x.f0 = 1 ∨ x.f0 = 2 ∨ x.f0 = 3 ∨ x.f0 = 4 ∨ x.f0 = 5 ∨ x.f0 = 6 ∨ x.f0 = 7 by omega) with c | c | c | c | c | c | c | c <;> rw [c] <;> simp <;> omega
theorem len_sumE : ∀ (xs : List S56), (∀ x ∈ xs, 0 ≤ x.f0 ∧ x.f0 ≤ 7) → xs.length = cE 0 xs + cE 1 xs + cE 2 xs + cE 3 xs + cE 4 xs + cE 5 xs + cE 6 xs + cE 7 xs
  | [], _ => by simp [cE]
  | x :: xs, h => by
    have ih := len_sumE xs (fun y hy => h y (List.mem_cons_of_mem _ hy))
    have hx := h x (List.mem_cons_self ..)
    have e : ∀ a : Int, cE a (x :: xs) = cE a xs + if x.f0 = a then 1 else 0 := by
      intro a
      by_cases c : x.f0 = a
      · simp [cE, List.filter_cons, c]
      · simp [cE, List.filter_cons, c]
    simp only [e, List.length_cons]
    rcases (show x.f0 = 0 ∨ x.f0 = 1 ∨ x.f0 = 2 ∨ x.f0 = 3 ∨ x.f0 = 4 ∨ x.f0 = 5 ∨ x.f0 = 6 ∨ x.f0 = 7 by omega) with c | c | c | c | c | c | c | c <;> rw [c] <;> simp <;> omega
/-- The nodes' part of the document's function. -/
theorem specN_l0 (ns : List S36) (es : List S56) (hm : ns.length ≤ 2097152) (R : Option Bool) (K : Nat) (hR : ∀ k, K ≤ k → spec_GraphOk.l1 k 0 ns es = R) : ∀ (d k : Nat) (i : Nat) (last : Int), i + d = ns.length → i ≤ 40 →
    (i = 0 ∧ last = -1 ∨ 0 < i ∧ ∃ h : i - 1 < ns.length, nOk (ns[i - 1]).f0 (ns[i - 1]).f1 = true ∧ last = Cd (ns[i - 1]).f0 (ns[i - 1]).f1) → K + d < k →
    spec_GraphOk.l0 k i ns es = if (Asc (ns.drop i) last && decide (ns.length ≤ 40)) = true then R else some false := by
  intro d
  induction d with
  | zero =>
    intro k i last hd h40 hl hk
    obtain ⟨k, rfl⟩ : ∃ m, k = m + 1 := ⟨k - 1, by omega⟩
    simp only [spec_GraphOk.l0]
    rw [if_neg (by omega), List.drop_of_length_le (by omega), hR k (by omega), if_pos (by simp [Asc]; omega)]
  | succ d ih =>
    intro k i last hd h40 hl hk
    obtain ⟨k, rfl⟩ : ∃ m, k = m + 1 := ⟨k - 1, by omega⟩
    have hi : i < ns.length := by omega
    simp only [spec_GraphOk.l0]
    have ih' := ih k (i + 1) (Cd (ns[i]).f0 (ns[i]).f1) (by omega)
    rw [if_pos (by omega), if_pos (by omega), rdT_at hi, List.drop_eq_getElem_cons hi, sN]
    simp only [Option.bind_some, Asc]
    by_cases c : nOk (ns[i]).f0 (ns[i]).f1 = true
    · have cd : Cd (ns[i]).f0 (ns[i]).f1 = 64 * (ns[i]).f0 + (ns[i]).f1 := by unfold Cd; rw [if_pos c]
      have cn := nOk_iff.1 c
      rw [if_pos c]
      have fin : (if (i : Int) ≥ 40 then some false else spec_GraphOk.l0 k (wrap64 ((i : Int) + 1)) ns es) = if (Asc (ns.drop (i + 1)) (Cd (ns[i]).f0 (ns[i]).f1) && decide (ns.length ≤ 40)) = true then R else some false := by
        by_cases c4 : (i : Int) ≥ 40
        · rw [if_pos c4]; simp only [show ¬ ns.length ≤ 40 by omega, decide_false, Bool.and_false, Bool.false_eq_true, if_false]
        · rw [if_neg c4, w64 (x := (i : Int) + 1) (by omega), show (i : Int) + 1 = ((i + 1 : Nat) : Int) by omega]
          exact ih' (by omega) (.inr ⟨by omega, by simpa using hi, by simpa using c, by simp⟩) (by omega)
      rcases hl with ⟨h0, hl⟩ | ⟨h0, h1, h2, h3⟩
      · rw [if_neg (by omega), fin]; simp only [show last < Cd (ns[i]).f0 (ns[i]).f1 by omega, decide_true, Bool.true_and]
      · rw [if_pos (by omega), w64 (x := (i : Int) - 1) (by omega), if_pos (by omega), if_pos (by omega), show (i : Int) - 1 = ((i - 1 : Nat) : Int) by omega, rdT_at h1, sC2 h2, sC2 c]
        simp only [Option.bind_some]
        have cp : Cd (ns[i - 1]).f0 (ns[i - 1]).f1 = 64 * (ns[i - 1]).f0 + (ns[i - 1]).f1 := by unfold Cd; rw [if_pos h2]
        by_cases c3 : 64 * (ns[i - 1]).f0 + (ns[i - 1]).f1 ≥ 64 * (ns[i]).f0 + (ns[i]).f1
        · rw [if_pos c3]; simp only [show ¬ last < Cd (ns[i]).f0 (ns[i]).f1 by omega, decide_false, Bool.false_and, Bool.false_eq_true, if_false]
        · rw [if_neg c3, fin]; simp only [show last < Cd (ns[i]).f0 (ns[i]).f1 by omega, decide_true, Bool.true_and]
    · rw [if_neg c]
      have : Cd (ns[i]).f0 (ns[i]).f1 = -1 := by unfold Cd; rw [if_neg c]
      have hl' : -1 ≤ last := by
        rcases hl with ⟨_, h⟩ | ⟨_, h1, h2, h3⟩
        · omega
        · rw [h3]; unfold Cd; rw [if_pos h2]; have := nOk_iff.1 h2; omega
      simp only [show ¬ last < Cd (ns[i]).f0 (ns[i]).f1 by omega, decide_false, Bool.false_and, Bool.false_eq_true, if_false]
/-- A node is among them. -/
def In (ns : List S36) (a b : Int) : Bool := ns.any fun x => x.f0 == a && (x.f1 == b)
/-- An edge stands ahead of another one. -/
def Lt (p e : S56) : Bool := if p.f0 = e.f0 then (if p.f1.f0 = e.f1.f0 ∧ p.f1.f1 = e.f1.f1 then decide (Cd p.f2.f0 p.f2.f1 < Cd e.f2.f0 e.f2.f1) else decide (Cd p.f1.f0 p.f1.f1 < Cd e.f1.f0 e.f1.f1)) else decide (p.f0 < e.f0)
def Eo (e : S56) : Bool := EOk e.f0 e.f1.f0 e.f1.f1 e.f2.f0 e.f2.f1
/-- Edges are right, ascend, and stand between nodes that are there. -/
def EAsc (ns : List S36) : List S56 → Option S56 → Bool
  | [], _ => true
  | e :: es, p => Eo e && ((match p with | some p => Lt p e | none => true) && (In ns e.f1.f0 e.f1.f1 && (In ns e.f2.f0 e.f2.f1 && EAsc ns es (some e))))
theorem at_l0 (ns : List S36) (es : List S56) (hm : ns.length ≤ 2097152) (a b : Int) : ∀ (d k : Nat) (i : Nat), i + d = ns.length → d < k → ∃ r, spec_l2At.l0 k i ns es a b = some r ∧ decide (r < 0) = !In (ns.drop i) a b := by
  intro d
  induction d with
  | zero =>
    intro k i hd hk
    obtain ⟨k, rfl⟩ : ∃ m, k = m + 1 := ⟨k - 1, by omega⟩
    simp only [spec_l2At.l0]
    rw [if_neg (by omega), List.drop_of_length_le (by omega)]
    exact ⟨-1, rfl, by simp [In]⟩
  | succ d ih =>
    intro k i hd hk
    obtain ⟨k, rfl⟩ : ∃ m, k = m + 1 := ⟨k - 1, by omega⟩
    have hi : i < ns.length := by omega
    simp only [spec_l2At.l0]
    rw [if_pos (by omega), if_pos (by omega), rdT_at hi, List.drop_eq_getElem_cons hi]
    by_cases c : ((ns[i]).f0 == a && ((ns[i]).f1 == b)) = true
    · rw [if_pos c]; exact ⟨i, rfl, by simp only [In, List.any_cons, c, Bool.true_or]; simp⟩
    · rw [if_neg c, w64 (x := (i : Int) + 1) (by omega), show (i : Int) + 1 = ((i + 1 : Nat) : Int) by omega]
      obtain ⟨r, h1, h2⟩ := ih k (i + 1) (by omega) (by omega)
      refine ⟨r, h1, ?_⟩
      rw [h2]
      simp only [Bool.not_eq_true] at c
      simp only [In, List.any_cons, c, Bool.false_or]
theorem at_ok (ns : List S36) (es : List S56) (hm : ns.length ≤ 2097152) (a b : Int) (k : Nat) (hk : ns.length < k) : ∃ r, spec_l2At.f k ns es a b = some r ∧ decide (r < 0) = !In ns a b := by
  have := at_l0 ns es hm a b ns.length k 0 (by omega) hk
  simpa [spec_l2At.f] using this
theorem Cd_inj {a b c d : Int} (h1 : nOk a b = true) (h2 : nOk c d = true) : 64 * a + b = 64 * c + d ↔ a = c ∧ b = d := by
  have := nOk_iff.1 h1; have := nOk_iff.1 h2; omega
theorem Eo_iff {e : S56} : Eo e = true ↔ (0 ≤ e.f0 ∧ e.f0 ≤ 7) ∧ nOk e.f1.f0 e.f1.f1 = true ∧ nOk e.f2.f0 e.f2.f1 = true ∧ 64 * e.f1.f0 + e.f1.f1 < 64 * e.f2.f0 + e.f2.f1 ∧ U e.f1.f0 e.f0 = true ∧ U e.f2.f0 e.f0 = true := by
  simp [Eo, EOk, isL]
theorem less_ok {p e : S56} (hp : Eo p = true) (he : Eo e = true) : spec_l2Less.f p.f0 p.f1.f0 p.f1.f1 p.f2.f0 p.f2.f1 e.f0 e.f1.f0 e.f1.f1 e.f2.f0 e.f2.f1 = some (Lt p e) := by
  obtain ⟨_, p1, p2, _⟩ := Eo_iff.1 hp
  obtain ⟨_, e1, e2, _⟩ := Eo_iff.1 he
  unfold spec_l2Less.f Lt
  have cd : ∀ {a b : Int}, nOk a b = true → Cd a b = 64 * a + b := fun h => by unfold Cd; rw [if_pos h]
  rw [sC2 p1, sC2 p2, sC2 e1, sC2 e2, cd p1, cd p2, cd e1, cd e2]
  by_cases c : p.f0 = e.f0
  · rw [if_pos c, if_pos c]
    by_cases c2 : p.f1.f0 = e.f1.f0 ∧ p.f1.f1 = e.f1.f1
    · rw [if_pos c2, if_neg (by simp [c2.1, c2.2])]; rfl
    · rw [if_neg c2, if_pos (by simp; omega)]; rfl
  · rw [if_neg c, if_neg c]
/-- The edges' part of the document's function. -/
theorem specE_l1 (ns : List S36) (es : List S56) (hn : ns.length ≤ 2097152) (hm : es.length ≤ 2097152) (R : Option Bool) (K : Nat) (hK : ns.length < K) (hR : ∀ k, K ≤ k → spec_GraphOk.l2 k 0 ns es = R) : ∀ (d k : Nat) (i : Nat) (p : Option S56), i + d = es.length → i ≤ 56 →
    (i = 0 ∧ p = none ∨ 0 < i ∧ ∃ h : i - 1 < es.length, Eo (es[i - 1]) = true ∧ p = some (es[i - 1])) → K + d < k →
    spec_GraphOk.l1 k i ns es = if (EAsc ns (es.drop i) p && decide (es.length ≤ 56)) = true then R else some false := by
  intro d
  induction d with
  | zero =>
    intro k i p hd h40 hl hk
    obtain ⟨k, rfl⟩ : ∃ m, k = m + 1 := ⟨k - 1, by omega⟩
    simp only [spec_GraphOk.l1]
    rw [if_neg (by omega), List.drop_of_length_le (by omega), hR k (by omega), if_pos (by simp [EAsc]; omega)]
  | succ d ih =>
    intro k i p hd h40 hl hk
    obtain ⟨k, rfl⟩ : ∃ m, k = m + 1 := ⟨k - 1, by omega⟩
    have hi : i < es.length := by omega
    simp only [spec_GraphOk.l1]
    have ih' := ih k (i + 1) (some es[i]) (by omega)
    rw [if_pos (by omega), if_pos (by omega), rdE_at hi, List.drop_eq_getElem_cons hi]
    simp only [spec_EdgeOk.f, Option.bind_some, EAsc]
    have eEo : EOk (es[i]).f0 (es[i]).f1.f0 (es[i]).f1.f1 (es[i]).f2.f0 (es[i]).f2.f1 = Eo es[i] := rfl
    rw [eEo]
    by_cases c : Eo es[i] = true
    · obtain ⟨r1, a1, b1⟩ := at_ok ns es hn (es[i]).f1.f0 (es[i]).f1.f1 k (by omega)
      obtain ⟨r2, a2, b2⟩ := at_ok ns es hn (es[i]).f2.f0 (es[i]).f2.f1 k (by omega)
      rw [if_pos c]
      simp only [a1, a2, Option.bind_some]
      have fin : (if r1 < 0 then some false else if r2 < 0 then some false else if (i : Int) ≥ 56 then some false else spec_GraphOk.l1 k (wrap64 ((i : Int) + 1)) ns es) =
          if ((In ns (es[i]).f1.f0 (es[i]).f1.f1 && (In ns (es[i]).f2.f0 (es[i]).f2.f1 && EAsc ns (es.drop (i + 1)) (some es[i]))) && decide (es.length ≤ 56)) = true then R else some false := by
        by_cases q1 : r1 < 0
        · rw [if_pos q1]
          have : In ns (es[i]).f1.f0 (es[i]).f1.f1 = false := by rw [decide_eq_true q1] at b1; simpa using b1.symm
          simp [this]
        · rw [if_neg q1]
          have t1 : In ns (es[i]).f1.f0 (es[i]).f1.f1 = true := by rw [decide_eq_false q1] at b1; simpa using b1.symm
          by_cases q2 : r2 < 0
          · rw [if_pos q2]
            have : In ns (es[i]).f2.f0 (es[i]).f2.f1 = false := by rw [decide_eq_true q2] at b2; simpa using b2.symm
            simp [this]
          · rw [if_neg q2]
            have t2 : In ns (es[i]).f2.f0 (es[i]).f2.f1 = true := by rw [decide_eq_false q2] at b2; simpa using b2.symm
            simp only [t1, t2, Bool.true_and]
            by_cases c4 : (i : Int) ≥ 56
            · rw [if_pos c4]; simp only [show ¬ es.length ≤ 56 by omega, decide_false, Bool.and_false, Bool.false_eq_true, if_false]
            · rw [if_neg c4, w64 (x := (i : Int) + 1) (by omega), show (i : Int) + 1 = ((i + 1 : Nat) : Int) by omega]
              exact ih' (by omega) (.inr ⟨by omega, by simpa using hi, by simpa using c, by simp⟩) (by omega)
      simp only [c, Bool.true_and]
      rcases hl with ⟨h0, rfl⟩ | ⟨h0, h1, h2, rfl⟩
      · rw [if_neg (by omega), fin]; simp only [Bool.true_and]
      · rw [if_pos (by omega), w64 (x := (i : Int) - 1) (by omega), if_pos (by omega), if_pos (by omega), show (i : Int) - 1 = ((i - 1 : Nat) : Int) by omega, rdE_at h1, less_ok h2 c]
        simp only [Option.bind_some]
        by_cases c3 : Lt es[i - 1] es[i] = true
        · rw [if_pos c3, fin]; simp only [c3, Bool.true_and]
        · rw [if_neg c3]; simp only [Bool.not_eq_true] at c3; simp only [c3, Bool.false_and, Bool.false_eq_true, if_false]
    · rw [if_neg c]
      simp only [Bool.not_eq_true] at c
      simp only [c, Bool.false_and, Bool.false_eq_true, if_false]
theorem cN_cons (a : Int) (x : S36) (xs : List S36) : cN a (x :: xs) = cN a xs + if x.f0 = a then 1 else 0 := by
  by_cases c : x.f0 = a
  · simp [cN, List.filter_cons, c]
  · simp [cN, List.filter_cons, c]
theorem cE_cons (a : Int) (x : S56) (xs : List S56) : cE a (x :: xs) = cE a xs + if x.f0 = a then 1 else 0 := by
  by_cases c : x.f0 = a
  · simp [cE, List.filter_cons, c]
  · simp [cE, List.filter_cons, c]
theorem cntN_l0 (ns : List S36) (es : List S56) (hm : ns.length ≤ 2097152) (a : Int) : ∀ (d k : Nat) (n i : Nat), i + d = ns.length → n ≤ i → d < k → spec_l2Nodes.l0 k a n i ns es = some ((n + cN a (ns.drop i) : Nat) : Int) := by
  intro d
  induction d with
  | zero =>
    intro k n i hd hn hk
    obtain ⟨k, rfl⟩ : ∃ m, k = m + 1 := ⟨k - 1, by omega⟩
    simp only [spec_l2Nodes.l0]
    rw [if_neg (by omega), List.drop_of_length_le (by omega)]; simp [cN]
  | succ d ih =>
    intro k n i hd hn hk
    obtain ⟨k, rfl⟩ : ∃ m, k = m + 1 := ⟨k - 1, by omega⟩
    have hi : i < ns.length := by omega
    simp only [spec_l2Nodes.l0]
    rw [if_pos (by omega), if_pos (by omega), rdT_at hi, List.drop_eq_getElem_cons hi, cN_cons, w64 (x := (i : Int) + 1) (by omega), w64 (x := (n : Int) + 1) (by omega), show (i : Int) + 1 = ((i + 1 : Nat) : Int) by omega, show (n : Int) + 1 = ((n + 1 : Nat) : Int) by omega]
    by_cases c : (ns[i]).f0 = a
    · rw [if_pos c, if_pos c, ih k (n + 1) (i + 1) (by omega) (by omega) (by omega)]; congr 2; omega
    · rw [if_neg c, if_neg c, ih k n (i + 1) (by omega) (by omega) (by omega)]; congr 2
theorem cntE_l0 (ns : List S36) (es : List S56) (hm : es.length ≤ 2097152) (a : Int) : ∀ (d k : Nat) (n i : Nat), i + d = es.length → n ≤ i → d < k → spec_l2Edges.l0 k a n i ns es = some ((n + cE a (es.drop i) : Nat) : Int) := by
  intro d
  induction d with
  | zero =>
    intro k n i hd hn hk
    obtain ⟨k, rfl⟩ : ∃ m, k = m + 1 := ⟨k - 1, by omega⟩
    simp only [spec_l2Edges.l0]
    rw [if_neg (by omega), List.drop_of_length_le (by omega)]; simp [cE]
  | succ d ih =>
    intro k n i hd hn hk
    obtain ⟨k, rfl⟩ : ∃ m, k = m + 1 := ⟨k - 1, by omega⟩
    have hi : i < es.length := by omega
    simp only [spec_l2Edges.l0]
    rw [if_pos (by omega), if_pos (by omega), rdE_at hi, List.drop_eq_getElem_cons hi, cE_cons, w64 (x := (i : Int) + 1) (by omega), w64 (x := (n : Int) + 1) (by omega), show (i : Int) + 1 = ((i + 1 : Nat) : Int) by omega, show (n : Int) + 1 = ((n + 1 : Nat) : Int) by omega]
    by_cases c : (es[i]).f0 = a
    · rw [if_pos c, if_pos c, ih k (n + 1) (i + 1) (by omega) (by omega) (by omega)]; congr 2; omega
    · rw [if_neg c, if_neg c, ih k n (i + 1) (by omega) (by omega) (by omega)]; congr 2
/-- No label has too many. -/
def Few (ns : List S36) (es : List S56) : Bool := (List.range 8).all fun a => decide (cN a ns ≤ 5) && decide (cE a es ≤ 7)
theorem specC_l2 (ns : List S36) (es : List S56) (hn : ns.length ≤ 2097152) (hm : es.length ≤ 2097152) : ∀ (d k : Nat) (a : Nat), a + d = 8 → ns.length + es.length + d < k →
    spec_GraphOk.l2 k a ns es = some ((List.range d).all fun j => decide (cN ((a + j : Nat) : Int) ns ≤ 5) && decide (cE ((a + j : Nat) : Int) es ≤ 7)) := by
  intro d
  induction d with
  | zero =>
    intro k a hd hk
    obtain ⟨k, rfl⟩ : ∃ m, k = m + 1 := ⟨k - 1, by omega⟩
    simp only [spec_GraphOk.l2]
    rw [if_neg (by omega)]; rfl
  | succ d ih =>
    intro k a hd hk
    obtain ⟨k, rfl⟩ : ∃ m, k = m + 1 := ⟨k - 1, by omega⟩
    simp only [spec_GraphOk.l2]
    have n0 : spec_l2Nodes.f k ns es a = some ((cN a ns : Nat) : Int) := by
      have := cntN_l0 ns es hn a ns.length k 0 0 (by omega) (by omega) (by omega)
      simpa [spec_l2Nodes.f] using this
    have e0 : spec_l2Edges.f k ns es a = some ((cE a es : Nat) : Int) := by
      have := cntE_l0 ns es hm a es.length k 0 0 (by omega) (by omega) (by omega)
      simpa [spec_l2Edges.f] using this
    rw [if_pos (by omega), n0, e0, List.range_succ_eq_map, List.all_cons, List.all_map]
    simp only [Option.bind_some, Nat.add_zero]
    have r := ih k (a + 1) (by omega) (by omega)
    rw [w64 (x := (a : Int) + 1) (by omega), show (a : Int) + 1 = ((a + 1 : Nat) : Int) by omega, r]
    have f : ((fun j : Nat => decide (cN ((a + j : Nat) : Int) ns ≤ 5) && decide (cE ((a + j : Nat) : Int) es ≤ 7)) ∘ Nat.succ) = fun j : Nat => decide (cN ((a + 1 + j : Nat) : Int) ns ≤ 5) && decide (cE ((a + 1 + j : Nat) : Int) es ≤ 7) := by
      funext j; simp only [Function.comp_def, show a + Nat.succ j = a + 1 + j by omega]
    rw [f]
    by_cases c1 : (cN a ns : Int) > 5
    · rw [if_pos c1]; simp only [show ¬ cN a ns ≤ 5 by omega, decide_false, Bool.false_and]
    · rw [if_neg c1]
      by_cases c2 : (cE a es : Int) > 7
      · rw [if_pos c2]; simp only [show ¬ cE a es ≤ 7 by omega, decide_false, Bool.and_false, Bool.false_and]
      · rw [if_neg c2]; simp only [show cN a ns ≤ 5 by omega, show cE a es ≤ 7 by omega, decide_true, Bool.true_and]
/-- A graph is right. -/
def GOk (ns : List S36) (es : List S56) : Bool := Asc ns (-1) && (EAsc ns es none && Few ns es)
theorem Few_len {ns : List S36} {es : List S56} (h : Few ns es = true) (h1 : Asc ns (-1) = true) : ns.length ≤ 40 := by
  have hl := len_sum ns (fun x hx => by have := nOk_iff.1 (Asc_ok ns (-1) (by omega) h1 x hx).1; omega)
  have q : ∀ a : Nat, a < 8 → cN a ns ≤ 5 := fun a ha => by
    have := List.all_eq_true.1 h a (List.mem_range.2 ha)
    simp at this; exact this.1
  have q0 := q 0 (by omega); have q1 := q 1 (by omega); have q2 := q 2 (by omega); have q3 := q 3 (by omega)
  have q4 := q 4 (by omega); have q5 := q 5 (by omega); have q6 := q 6 (by omega); have q7 := q 7 (by omega)
  simp at q0 q1 q2 q3 q4 q5 q6 q7
  omega
theorem EAsc_ok (ns : List S36) : ∀ (es : List S56) (p : Option S56), EAsc ns es p = true → ∀ e ∈ es, Eo e = true
  | [], _, _, x, hx => by cases hx
  | y :: es, p, h, x, hx => by
    simp only [EAsc, Bool.and_eq_true] at h
    rcases List.mem_cons.1 hx with rfl | hx
    · exact h.1
    · exact EAsc_ok ns es _ h.2.2.2.2 x hx
theorem Few_lenE {ns : List S36} {es : List S56} (h : Few ns es = true) (h1 : EAsc ns es none = true) : es.length ≤ 56 := by
  have hl := len_sumE es (fun x hx => (Eo_iff.1 (EAsc_ok ns es none h1 x hx)).1)
  have q : ∀ a : Nat, a < 8 → cE a es ≤ 7 := fun a ha => by
    have := List.all_eq_true.1 h a (List.mem_range.2 ha)
    simp at this; exact this.2
  have q0 := q 0 (by omega); have q1 := q 1 (by omega); have q2 := q 2 (by omega); have q3 := q 3 (by omega)
  have q4 := q 4 (by omega); have q5 := q 5 (by omega); have q6 := q 6 (by omega); have q7 := q 7 (by omega)
  simp at q0 q1 q2 q3 q4 q5 q6 q7
  omega
theorem sGraphOk_ok (ns : List S36) (es : List S56) (hn : ns.length ≤ 2097152) (hm : es.length ≤ 2097152) (k : Nat) (hk : 2 * ns.length + 2 * es.length + 100 < k) : spec_GraphOk.f k ns es = some (GOk ns es) := by
  have h2 : ∀ q, ns.length + es.length + 10 ≤ q → spec_GraphOk.l2 q 0 ns es = some (Few ns es) := by
    intro q hq
    have := specC_l2 ns es hn hm 8 q 0 (by omega) (by omega)
    simpa [Few] using this
  have h1 : ∀ q, ns.length + 2 * es.length + 20 ≤ q → spec_GraphOk.l1 q 0 ns es = some (EAsc ns es none && (decide (es.length ≤ 56) && Few ns es)) := by
    intro q hq
    have := specE_l1 ns es hn hm _ (ns.length + es.length + 10) (by omega) h2 es.length q 0 none (by omega) (by omega) (.inl ⟨rfl, rfl⟩) (by omega)
    rw [List.drop_zero] at this
    rw [show ((0 : Nat) : Int) = 0 from rfl] at this
    rw [this]
    cases EAsc ns es none <;> cases decide (es.length ≤ 56) <;> rfl
  have h0 := specN_l0 ns es hn _ (ns.length + 2 * es.length + 20) h1 ns.length k 0 (-1) (by omega) (by omega) (.inl ⟨rfl, rfl⟩) (by omega)
  rw [List.drop_zero] at h0
  rw [show ((0 : Nat) : Int) = 0 from rfl] at h0
  unfold spec_GraphOk.f GOk
  rw [h0]
  cases c1 : Asc ns (-1)
  · rfl
  · cases c2 : EAsc ns es none
    · simp
    · cases c3 : Few ns es
      · simp
      · have l1 := Few_len c3 c1
        have l2 := Few_lenE c3 c2
        simp [l1, l2]
/-- Edges as the program goes through them. -/
def ER (ns : List S36) : List S56 → Option S56 → List Int → Bool
  | [], _, _ => true
  | e :: es, p, m => if Eo e = true then (if rd m e.f0 = 7 then false else if (match p with | some p => Lt p e | none => true) = true then (if In ns e.f1.f0 e.f1.f1 = true then (if In ns e.f2.f0 e.f2.f1 = true then ER ns es (some e) (m.set e.f0.toNat (wrap64 (rd m e.f0 + 1))) else false) else false) else false) else false
theorem ER_eq (ns : List S36) : ∀ (es : List S56) (p : Option S56) (m : List Int), m.length = 8 → (∀ a : Nat, a < 8 → 0 ≤ rd m a ∧ rd m a ≤ 7) →
    ER ns es p m = (EAsc ns es p && (List.range 8).all fun a => decide (rd m a + cE a es ≤ 7))
  | [], p, m, hl, hm => by
    have : ((List.range 8).all fun a => decide (rd m a + cE a ([] : List S56) ≤ 7)) = true := by
      rw [List.all_eq_true]
      intro a ha
      have := hm a (List.mem_range.1 ha)
      simp [cE]; omega
    rw [this]; rfl
  | x :: xs, p, m, hl, hm => by
    simp only [ER, EAsc]
    by_cases c : Eo x = true
    · rw [if_pos c]
      obtain ⟨⟨e2, e3⟩, _⟩ := Eo_iff.1 c
      obtain ⟨j, hj⟩ := Int.eq_ofNat_of_zero_le e2
      have hj8 : j < 8 := by omega
      have hmj := hm j hj8
      by_cases c2 : rd m x.f0 = 7
      · rw [if_pos c2]
        have : ((List.range 8).all fun a => decide (rd m a + cE a (x :: xs) ≤ 7)) = false := by
          rw [List.all_eq_false]
          refine ⟨j, List.mem_range.2 hj8, ?_⟩
          have : 1 ≤ cE (j : Int) (x :: xs) := by simp [cE, hj]
          rw [hj] at c2
          simp; omega
        rw [this, Bool.and_false]
      · rw [if_neg c2, w64 (x := rd m x.f0 + 1) (by rw [hj]; omega)]
        have hr : ∀ a : Nat, a < 8 → rd (m.set x.f0.toNat (rd m x.f0 + 1)) a = if a = j then rd m a + 1 else rd m a := by
          intro a ha
          rw [hj, Int.toNat_natCast]
          unfold rd
          simp only [Int.toNat_natCast, List.getD_eq_getElem?_getD, List.getElem?_set]
          by_cases q : j = a
          · subst q; simp [hl, hj8]
          · rw [if_neg q, if_neg (fun h => q h.symm)]
        have c2' : rd m (j : Int) ≠ 7 := by rw [← hj]; exact c2
        rw [ER_eq ns xs (some x) _ (by simpa using hl) (fun a ha => by
          rw [hr a ha]; have := hm a ha; split
          · rename_i q; subst q; omega
          · omega)]
        have hc : ((List.range 8).all fun a => decide (rd (m.set x.f0.toNat (rd m x.f0 + 1)) a + cE a xs ≤ 7)) = (List.range 8).all fun a => decide (rd m a + cE a (x :: xs) ≤ 7) := by
          apply Bool.eq_iff_iff.2
          rw [List.all_eq_true, List.all_eq_true]
          have hc : ∀ a : Nat, a < 8 → (rd (m.set x.f0.toNat (rd m x.f0 + 1)) a + cE a xs = rd m a + cE a (x :: xs)) := by
            intro a ha
            rw [hr a ha, cE_cons]
            by_cases q : a = j
            · subst q; rw [if_pos rfl, if_pos hj]; omega
            · rw [if_neg q, if_neg (by rw [hj]; omega)]; omega
          constructor
          · intro h a ha; have := h a ha; have e := hc a (List.mem_range.1 ha); simp at this ⊢; omega
          · intro h a ha; have := h a ha; have e := hc a (List.mem_range.1 ha); simp at this ⊢; omega
        rw [hc]
        simp only [c, Bool.true_and]
        cases (match p with | some p => Lt p x | none => true) <;> cases In ns x.f1.f0 x.f1.f1 <;> cases In ns x.f2.f0 x.f2.f1 <;> simp
    · rw [if_neg c]
      simp only [Bool.not_eq_true] at c
      simp only [c, Bool.false_and]
theorem Cmp_ok (a b : Int) : cmp_Compare_int.f a b = some (if a < b then -1 else if a > b then 1 else 0) := by
  unfold cmp_Compare_int.f cmp_isNaN_int.f
  simp only [Option.bind_some, bne_self_eq_false, Bool.false_eq_true, if_false]
  split
  · rfl
  · split <;> rfl
theorem Or_ok (x y z : Int) (k : Nat) (hk : 5 ≤ k) : cmp_Or_int.f k [x, y, z] = some (if x ≠ 0 then x else if y ≠ 0 then y else z) := by
  obtain ⟨k, rfl⟩ : ∃ m, k = m + 5 := ⟨k - 5, by omega⟩
  have w1 : wrap64 (0 + 1) = 1 := by decide +kernel
  have w2 : wrap64 (1 + 1) = 2 := by decide +kernel
  have w3 : wrap64 (2 + 1) = 3 := by decide +kernel
  unfold cmp_Or_int.f
  simp only [cmp_Or_int.l0, List.length_cons, List.length_nil]
  simp only [rd, w1, w2, w3]
  by_cases c1 : x = 0
  · by_cases c2 : y = 0
    · by_cases c3 : z = 0
      · simp [c1, c2, c3, w1, w2, w3]
      · simp [c1, c2, c3, w1, w2, w3]
    · simp [c1, c2, w1, w2, w3]
  · simp [c1, w1]
theorem order_ok {p e : S56} (hp : Eo p = true) (he : Eo e = true) (k : Nat) (hk : 5 ≤ k) : ∃ t, impl_edgeOrder.f k p.f0 p.f1.f0 p.f1.f1 p.f2.f0 p.f2.f1 e.f0 e.f1.f0 e.f1.f1 e.f2.f0 e.f2.f1 = some t ∧ decide (t ≥ 0) = !Lt p e := by
  obtain ⟨_, p1, p2, _⟩ := Eo_iff.1 hp
  obtain ⟨_, e1, e2, _⟩ := Eo_iff.1 he
  have cd : ∀ {a b : Int}, nOk a b = true → Cd a b = 64 * a + b := fun h => by unfold Cd; rw [if_pos h]
  have inj := Cd_inj p1 e1
  unfold impl_edgeOrder.f
  simp only [Cmp_ok, iO, Option.bind_some, Or_ok _ _ _ k hk]
  refine ⟨_, rfl, ?_⟩
  unfold Lt oN
  rw [cd p1, cd p2, cd e1, cd e2]
  by_cases c : p.f0 = e.f0
  · rw [if_pos c]
    rw [c]
    simp only [Int.lt_irrefl, if_false, gt_iff_lt, ne_eq, not_true_eq_false]
    by_cases c2 : p.f1.f0 = e.f1.f0 ∧ p.f1.f1 = e.f1.f1
    · rw [if_pos c2]
      have := inj.2 c2
      rw [this]
      simp only [Int.lt_irrefl, if_false, not_true_eq_false]
      by_cases q : 64 * p.f2.f0 + p.f2.f1 < 64 * e.f2.f0 + e.f2.f1
      · simp [q]
      · by_cases q2 : 64 * e.f2.f0 + e.f2.f1 < 64 * p.f2.f0 + p.f2.f1
        · simp [q, q2]
        · simp [q, q2]
    · rw [if_neg c2]
      have hne : 64 * p.f1.f0 + p.f1.f1 ≠ 64 * e.f1.f0 + e.f1.f1 := fun h => c2 (inj.1 h)
      by_cases q : 64 * p.f1.f0 + p.f1.f1 < 64 * e.f1.f0 + e.f1.f1
      · simp [q]
      · have q2 : 64 * e.f1.f0 + e.f1.f1 < 64 * p.f1.f0 + p.f1.f1 := by omega
        simp [q, q2]
  · rw [if_neg c]
    by_cases q : p.f0 < e.f0
    · simp [q]
    · have q2 : e.f0 < p.f0 := by omega
      simp [q, q2]
theorem oN_neg {a b c d : Int} : oN a b c d < 0 ↔ Cd a b < Cd c d := by
  unfold oN; split
  · simp; assumption
  · split <;> simp <;> omega
theorem oN_zero {a b c d : Int} : (oN a b c d == 0) = true ↔ Cd a b = Cd c d := by
  unfold oN; split
  · simp; omega
  · split <;> simp <;> omega
theorem Asc_gt : ∀ (xs : List S36) (last : Int), Asc xs last = true → ∀ x ∈ xs, last < Cd x.f0 x.f1
  | [], _, _, x, hx => by cases hx
  | y :: xs, last, h, x, hx => by
    simp only [Asc, Bool.and_eq_true, decide_eq_true_eq] at h
    rcases List.mem_cons.1 hx with rfl | hx
    · exact h.1
    · have := Asc_gt xs _ h.2 x hx
      omega
theorem Asc_mono : ∀ (xs : List S36) (last : Int), Asc xs last = true → ∀ (i j : Nat) (hi : i < j) (hj : j < xs.length), Cd (xs[i]'(by omega)).f0 (xs[i]'(by omega)).f1 < Cd (xs[j]).f0 (xs[j]).f1
  | [], _, _, i, j, hi, hj => by simp at hj
  | x :: xs, last, h, i, j, hi, hj => by
    simp only [Asc, Bool.and_eq_true, decide_eq_true_eq] at h
    cases j with
    | zero => omega
    | succ j =>
      cases i with
      | zero =>
        simp only [List.getElem_cons_zero, List.getElem_cons_succ]
        exact Asc_gt xs _ h.2 _ (List.getElem_mem _)
      | succ i =>
        simp only [List.getElem_cons_succ]
        exact Asc_mono xs _ h.2 i j (by omega) (by simpa using hj)
theorem bsf_l0 (xs : List S36) (a b : Int) (hA : Asc xs (-1) = true) (ht : nOk a b = true) : ∀ (d k : Nat) (i j : Nat), j - i ≤ d → i ≤ j → j ≤ xs.length → (∀ q (h : q < xs.length), q < i → Cd (xs[q]).f0 (xs[q]).f1 < Cd a b) → (∀ q (h : q < xs.length), j ≤ q → Cd a b ≤ Cd (xs[q]).f0 (xs[q]).f1) → d < k →
    ∃ p, impl_bsf.l0 k xs a b i j = some (p, In xs a b) := by
  intro d
  induction d with
  | zero =>
    intro k i j hd hij hj h1 h2 hk
    obtain ⟨k, rfl⟩ : ∃ m, k = m + 1 := ⟨k - 1, by omega⟩
    obtain rfl : i = j := by omega
    simp only [impl_bsf.l0]
    rw [if_neg (by omega)]
    refine ⟨i, ?_⟩
    congr 2
    apply Bool.eq_iff_iff.2
    constructor
    · intro h
      by_cases c : (i : Int) < (xs.length : Int)
      · rw [if_pos c, rdT_at (by omega)] at h
        have e := oN_zero.1 h
        have o := Asc_ok xs (-1) (by omega) hA _ (List.getElem_mem (show i < xs.length by omega))
        have := Cd_inj o.1 ht
        unfold Cd at e
        rw [if_pos o.1, if_pos ht] at e
        have e2 := this.1 e
        unfold In
        rw [List.any_eq_true]
        exact ⟨_, List.getElem_mem (show i < xs.length by omega), by simp [e2.1, e2.2]⟩
      · rw [if_neg c] at h; cases h
    · intro h
      unfold In at h
      rw [List.any_eq_true] at h
      obtain ⟨x, hx, hxe⟩ := h
      obtain ⟨q, hq, rfl⟩ := List.mem_iff_getElem.1 hx
      simp at hxe
      have e : Cd (xs[q]).f0 (xs[q]).f1 = Cd a b := by rw [hxe.1, hxe.2]
      have hqi : i ≤ q := by
        rcases Nat.lt_or_ge q i with c | c
        · have := h1 q hq c; omega
        · exact c
      have : q = i := by
        rcases Nat.lt_or_ge i q with c | c
        · have := Asc_mono xs (-1) hA i q c hq
          have := h2 i (by omega) (Nat.le_refl _)
          omega
        · omega
      subst this
      rw [if_pos (by omega), rdT_at hq]
      exact oN_zero.2 e
  | succ d ih =>
    intro k i j hd hij hj h1 h2 hk
    by_cases c : i < j
    · obtain ⟨k, rfl⟩ : ∃ m, k = m + 1 := ⟨k - 1, by omega⟩
      simp only [impl_bsf.l0]
      have hh : ((i : Int) + (j : Int)) / 2 = (((i + j) / 2 : Nat) : Int) := by omega
      have hq : (i + j) / 2 < xs.length := by omega
      rw [if_pos (by omega), hh, rdT_at hq]
      by_cases c2 : oN (xs[(i + j) / 2]).f0 (xs[(i + j) / 2]).f1 a b < 0
      · rw [if_pos c2, show (((i + j) / 2 : Nat) : Int) + 1 = (((i + j) / 2 + 1 : Nat) : Int) by omega]
        have l := oN_neg.1 c2
        refine ih k _ j (by omega) (by omega) hj (fun q h hqi => ?_) h2 (by omega)
        rcases Nat.lt_or_ge q ((i + j) / 2) with c3 | c3
        · have := Asc_mono xs (-1) hA q _ c3 hq; omega
        · obtain rfl : q = (i + j) / 2 := by omega
          exact l
      · rw [if_neg c2]
        have l : Cd a b ≤ Cd (xs[(i + j) / 2]).f0 (xs[(i + j) / 2]).f1 := by
          rcases Int.lt_or_le (Cd (xs[(i + j) / 2]).f0 (xs[(i + j) / 2]).f1) (Cd a b) with q | q
          · exact absurd (oN_neg.2 q) c2
          · exact q
        refine ih k i _ (by omega) (by omega) (by omega) h1 (fun q h hqi => ?_) (by omega)
        rcases Nat.lt_or_ge ((i + j) / 2) q with c3 | c3
        · have := Asc_mono xs (-1) hA _ q c3 h; omega
        · obtain rfl : q = (i + j) / 2 := by omega
          exact l
    · exact ih k i j (by omega) hij hj h1 h2 (by omega)
theorem there_ok (xs : List S36) (a b : Int) (hA : Asc xs (-1) = true) (ht : nOk a b = true) (k : Nat) (hk : xs.length < k) : impl_nodeThere.f k xs a b = some (In xs a b) := by
  obtain ⟨p, hp⟩ := bsf_l0 xs a b hA ht xs.length k 0 xs.length (by omega) (by omega) (by omega) (fun q h hq => by omega) (fun q h hq => by omega) hk
  unfold impl_nodeThere.f impl_bsf.f
  rw [show ((0 : Nat) : Int) = 0 from rfl] at hp
  rw [hp]; rfl
/-- The edges' part of the program's function, where the nodes ascend. -/
theorem edgesOk_l0 (es : List S56) (ns : List S36) (hm : es.length ≤ 2097152) (hA : Asc ns (-1) = true) : ∀ (d k : Nat) (i : Nat) (p : Option S56) (m : List Int), i + d = es.length →
    (i = 0 ∧ p = none ∨ 0 < i ∧ ∃ h : i - 1 < es.length, Eo (es[i - 1]) = true ∧ p = some (es[i - 1])) → ns.length + d + 10 < k → impl_edgesOk.l0 k es ns m i = some (ER ns (es.drop i) p m) := by
  intro d
  induction d with
  | zero =>
    intro k i p m hd hl hk
    obtain ⟨k, rfl⟩ : ∃ m, k = m + 1 := ⟨k - 1, by omega⟩
    simp only [impl_edgesOk.l0]
    rw [if_neg (by omega), List.drop_of_length_le (by omega)]; rfl
  | succ d ih =>
    intro k i p m hd hl hk
    obtain ⟨k, rfl⟩ : ∃ m, k = m + 1 := ⟨k - 1, by omega⟩
    have hi : i < es.length := by omega
    simp only [impl_edgesOk.l0]
    rw [if_pos (by omega), if_pos (by omega), rdE_at hi, List.drop_eq_getElem_cons hi]
    simp only [ER]
    have eEo : EOk (es[i]).f0 (es[i]).f1.f0 (es[i]).f1.f1 (es[i]).f2.f0 (es[i]).f2.f1 = Eo es[i] := rfl
    rw [eEo]
    by_cases c : Eo es[i] = true
    · rw [if_pos c, if_pos c]
      obtain ⟨_, c1, c2, _⟩ := Eo_iff.1 c
      by_cases c7 : rd m (es[i]).f0 = 7
      · rw [if_pos c7, if_pos c7]
      · rw [if_neg c7, if_neg c7]
        simp only [there_ok ns _ _ hA c1 k (by omega), there_ok ns _ _ hA c2 k (by omega), Option.bind_some]
        have ih' := ih k (i + 1) (some es[i]) (m.set ((es[i]).f0).toNat (wrap64 (rd m (es[i]).f0 + 1))) (by omega) (.inr ⟨by omega, by simpa using hi, by simpa using c, by simp⟩) (by omega)
        rw [show ((i + 1 : Nat) : Int) = (i : Int) + 1 by omega] at ih'
        rw [w64 (x := (i : Int) + 1) (by omega), ih']
        have fin : (if In ns (es[i]).f1.f0 (es[i]).f1.f1 = true then (if In ns (es[i]).f2.f0 (es[i]).f2.f1 = true then some (ER ns (es.drop (i + 1)) (some es[i]) (m.set ((es[i]).f0).toNat (wrap64 (rd m (es[i]).f0 + 1)))) else some false) else some false) =
            some (if In ns (es[i]).f1.f0 (es[i]).f1.f1 = true then (if In ns (es[i]).f2.f0 (es[i]).f2.f1 = true then ER ns (es.drop (i + 1)) (some es[i]) (m.set ((es[i]).f0).toNat (wrap64 (rd m (es[i]).f0 + 1))) else false) else false) := by
          split
          · split <;> rfl
          · rfl
        rcases hl with ⟨h0, rfl⟩ | ⟨h0, h1, h2, rfl⟩
        · rw [if_neg (by omega), fin]; rfl
        · rw [if_pos (by omega), w64 (x := (i : Int) - 1) (by omega), if_pos (by omega), if_pos (by omega), show (i : Int) - 1 = ((i - 1 : Nat) : Int) by omega, rdE_at h1]
          obtain ⟨t, ht, hts⟩ := order_ok h2 c k (by omega)
          rw [ht]
          simp only [Option.bind_some]
          by_cases c3 : Lt es[i - 1] es[i] = true
          · rw [if_pos c3, if_neg (fun h => by rw [decide_eq_true h, c3] at hts; cases hts), fin]
          · rw [if_neg c3]
            rw [if_pos (by
              simp only [Bool.not_eq_true] at c3
              rw [c3] at hts
              simpa using hts)]
    · rw [if_neg c, if_neg c]
theorem iGraphOk_ok (ns : List S36) (es : List S56) (hn : ns.length ≤ 2097152) (hm : es.length ≤ 2097152) (k : Nat) (hk : 2 * ns.length + 2 * es.length + 100 < k) : impl_GraphOk.f k ns es = some (GOk ns es) := by
  have z : ∀ a : Nat, a < 8 → rd ([0, 0, 0, 0, 0, 0, 0, 0] : List Int) a = 0 := by
    intro a ha
    unfold rd
    rw [Int.toNat_natCast]
    rcases (show a = 0 ∨ a = 1 ∨ a = 2 ∨ a = 3 ∨ a = 4 ∨ a = 5 ∨ a = 6 ∨ a = 7 by omega) with rfl | rfl | rfl | rfl | rfl | rfl | rfl | rfl <;> rfl
  have h0 := nodesOk_l0 ns hn ns.length k 0 (-1) [0, 0, 0, 0, 0, 0, 0, 0] (by omega) (by omega)
  rw [List.drop_zero, show ((0 : Nat) : Int) = 0 from rfl, NR_eq ns (-1) _ (by omega) (by rfl) (fun a ha => by rw [z a ha]; omega)] at h0
  unfold impl_GraphOk.f impl_nodesOk.f impl_edgesOk.f GOk
  rw [h0]
  simp only [Option.bind_some]
  cases c1 : Asc ns (-1)
  · rfl
  · have h1 := edgesOk_l0 es ns hm c1 es.length k 0 none [0, 0, 0, 0, 0, 0, 0, 0] (by omega) (.inl ⟨rfl, rfl⟩) (by omega)
    rw [List.drop_zero, show ((0 : Nat) : Int) = 0 from rfl, ER_eq ns es none _ (by rfl) (fun a ha => by rw [z a ha]; omega)] at h1
    rw [h1]
    have q1 : ((List.range 8).all fun a => decide (rd ([0, 0, 0, 0, 0, 0, 0, 0] : List Int) a + cN a ns ≤ 5)) = (List.range 8).all fun a => decide (cN a ns ≤ 5) := by
      apply Bool.eq_iff_iff.2
      rw [List.all_eq_true, List.all_eq_true]
      constructor <;> intro h a ha <;> have := h a ha <;> have e := z a (List.mem_range.1 ha) <;> simp [e] at this ⊢ <;> omega
    have q2 : ((List.range 8).all fun a => decide (rd ([0, 0, 0, 0, 0, 0, 0, 0] : List Int) a + cE a es ≤ 7)) = (List.range 8).all fun a => decide (cE a es ≤ 7) := by
      apply Bool.eq_iff_iff.2
      rw [List.all_eq_true, List.all_eq_true]
      constructor <;> intro h a ha <;> have := h a ha <;> have e := z a (List.mem_range.1 ha) <;> simp [e] at this ⊢ <;> omega
    have q3 : Few ns es = (((List.range 8).all fun a => decide (cN a ns ≤ 5)) && ((List.range 8).all fun a => decide (cE a es ≤ 7))) := by
      unfold Few
      apply Bool.eq_iff_iff.2
      simp only [Bool.and_eq_true, List.all_eq_true]
      exact ⟨fun h => ⟨fun a ha => (h a ha).1, fun a ha => (h a ha).2⟩, fun h a ha => ⟨h.1 a ha, h.2 a ha⟩⟩
    rw [q1, q2, q3]
    cases ((List.range 8).all fun a => decide (cN a ns ≤ 5)) <;> cases ((List.range 8).all fun a => decide (cE a es ≤ 7)) <;> cases EAsc ns es none <;> rfl

theorem two_ok (k : Nat) (hk : 5 ≤ k) (i : Int) (hi : i = 0 ∨ i = 1 ∨ i = 2) : ∃ t, spec_l1Two.f k i = some t ∧ t ≠ 0 := by
  rcases hi with rfl | rfl | rfl
  · exact ⟨1, Go.Proofs.YtohmemckdogljaaW.PrintWords.at_rounds (g := fun k => spec_l1Two.f k 0) (fun k => spec_l1Two.mono _ k) hk (show spec_l1Two.f 5 0 = some 1 by decide +kernel), by decide⟩
  · exact ⟨2, Go.Proofs.YtohmemckdogljaaW.PrintWords.at_rounds (g := fun k => spec_l1Two.f k 1) (fun k => spec_l1Two.mono _ k) hk (show spec_l1Two.f 5 1 = some 2 by decide +kernel), by decide⟩
  · exact ⟨4, Go.Proofs.YtohmemckdogljaaW.PrintWords.at_rounds (g := fun k => spec_l1Two.f k 2) (fun k => spec_l1Two.mono _ k) hk (show spec_l1Two.f 5 2 = some 4 by decide +kernel), by decide⟩
theorem has_tot (k : Nat) (hk : 5 ≤ k) (a i : Int) (hi : i = 0 ∨ i = 1 ∨ i = 2) : ∃ r, spec_l1Has.f k a i = some r := by
  obtain ⟨t, h, ht⟩ := two_ok k hk i hi
  unfold spec_l1Has.f
  rw [h]; simp only [Option.bind_some]; rw [if_neg ht]; exact ⟨_, rfl⟩
theorem mix_l0 (a b : Int) (c : Bool) : ∀ (d k : Nat) (x : Int), d ≤ 3 → d + 6 ≤ k → ∃ r, spec_l1Mix.l0 k a b c x ((d : Int) - 1) = some r := by
  intro d
  induction d with
  | zero =>
    intro k x _ hk
    obtain ⟨k, rfl⟩ : ∃ m, k = m + 1 := ⟨k - 1, by omega⟩
    exact ⟨x, by simp only [spec_l1Mix.l0]; rw [if_neg (by omega)]⟩
  | succ d ih =>
    intro k x hd hk
    obtain ⟨k, rfl⟩ : ∃ m, k = m + 1 := ⟨k - 1, by omega⟩
    obtain ⟨r1, h1⟩ := has_tot k (by omega) a (((d + 1 : Nat) : Int) - 1) (by omega)
    obtain ⟨r2, h2⟩ := has_tot k (by omega) b (((d + 1 : Nat) : Int) - 1) (by omega)
    simp only [spec_l1Mix.l0, h1, h2, Option.bind_some, w64 (x := ((d + 1 : Nat) : Int) - 1 - 1) (by omega)]
    rw [if_pos (by omega), show ((d + 1 : Nat) : Int) - 1 - 1 = (d : Int) - 1 by omega]
    repeat' split
    all_goals exact ih k _ (by omega) (by omega)
theorem mix_tot (k : Nat) (hk : 9 ≤ k) (a b : Int) (c : Bool) : ∃ r, spec_l1Mix.f k a b c = some r := mix_l0 a b c 3 k 0 (by omega) (by omega)
theorem less_tot (a0 a1 a2 a3 a4 b0 b1 b2 b3 b4 : Int) : ∃ r, spec_l2Less.f a0 a1 a2 a3 a4 b0 b1 b2 b3 b4 = some r := by
  unfold spec_l2Less.f spec_l2Code.f
  simp only [Option.bind_some]
  split
  · split <;> exact ⟨_, rfl⟩
  · exact ⟨_, rfl⟩
theorem node_ok (k : Nat) (hk : 1 ≤ k) (b : List Int) (p : Int) (hb : ∀ x ∈ b, 0 ≤ x ∧ x ≤ 255) (hp0 : 0 ≤ p) (hp : p ≤ 900000) : ∃ u v, spec_l2Node.f k b p = some (u, v, p + 2) := by
  obtain ⟨u, hu, _⟩ := num_ok k hk b p [0, 1, 2, 3, 0, 1, 4, 7] hb hp0 (by omega) (by decide)
  obtain ⟨v, hv, _⟩ := num_ok k hk b (p + 1) [0, 1, 2, 3, 40] hb (by omega) (by omega) (by decide)
  exact ⟨u, v, by unfold spec_l2Node.f; rw [hu]; simp only [Option.bind_some]; rw [hv]; simp; omega⟩
theorem edge_j1 (k : Nat) (hk : 10 ≤ k) (b : List Int) (p : Int) (hb : ∀ x ∈ b, 0 ≤ x ∧ x ≤ 255) (hp0 : 0 ≤ p) (hp : p ≤ 900000) (x y u v : Int) : ∃ l a c d e, spec_l2Edge.j1 k b p x y u v = some (l, a, c, d, e, p + 1) := by
  obtain ⟨k, rfl⟩ : ∃ m, k = m + 1 := ⟨k - 1, by omega⟩
  obtain ⟨m1, hm1⟩ := mix_tot k (by omega) x u false
  obtain ⟨w, hw, _⟩ := num_ok k (by omega) b p [0, 0, 0, 1, 2, 4] hb hp0 (by omega) (by decide)
  obtain ⟨m2, hm2⟩ := mix_tot k (by omega) m1 w false
  simp only [spec_l2Edge.j1, hm1, hw, hm2, spec_l2Code.f, Option.bind_some]
  split <;> exact ⟨_, _, _, _, _, rfl⟩
theorem edge_j0 (k : Nat) (hk : 11 ≤ k) (b : List Int) (p : Int) (hb : ∀ x ∈ b, 0 ≤ x ∧ x ≤ 255) (hp0 : 0 ≤ p) (hp : p ≤ 800000) (t : Bool) (ns : List S36) (es : List S56) (ht : t = true → 1 ≤ ns.length) (x y u v : Int) :
    ∃ l a c d e q, spec_l2Edge.j0 k t b p ns es x y u v = some (l, a, c, d, e, q) ∧ p ≤ q ∧ q ≤ p + 3 := by
  obtain ⟨k, rfl⟩ : ∃ m, k = m + 1 := ⟨k - 1, by omega⟩
  simp only [spec_l2Edge.j0]
  cases t with
  | true =>
    have hn := ht rfl
    obtain ⟨i, hi, i0, i1⟩ := pick_ok k (by omega) b p ns.length hb hp0 (by omega) (by omega)
    obtain ⟨j, hj, j0, j1⟩ := pick_ok k (by omega) b (p + 1) ns.length hb (by omega) (by omega) (by omega)
    simp only [if_true, hi, hj, Option.bind_some]
    rw [if_pos i0, if_pos i1, if_pos j0, if_pos j1]
    obtain ⟨l, a, c, d, e, h⟩ := edge_j1 k (by omega) b (p + 1 + 1) hb (by omega) (by omega) (rd_T36 ns i).f0 (rd_T36 ns i).f1 (rd_T36 ns j).f0 (rd_T36 ns j).f1
    exact ⟨l, a, c, d, e, _, h, by omega, by omega⟩
  | false =>
    simp only [Bool.false_eq_true, if_false]
    obtain ⟨l, a, c, d, e, h⟩ := edge_j1 k (by omega) b p hb (by omega) (by omega) x y u v
    exact ⟨l, a, c, d, e, _, h, by omega, by omega⟩
theorem edge_ok (k : Nat) (hk : 11 ≤ k) (b : List Int) (p : Int) (hb : ∀ x ∈ b, 0 ≤ x ∧ x ≤ 255) (hp0 : 0 ≤ p) (hp : p ≤ 700000) (ns : List S36) (es : List S56) :
    ∃ l a c d e q, spec_l2Edge.f k b p ns es = some (l, a, c, d, e, q) ∧ p ≤ q ∧ q ≤ p + 8 := by
  obtain ⟨x, y, h1⟩ := node_ok k (by omega) b p hb hp0 (by omega)
  obtain ⟨u, v, h2⟩ := node_ok k (by omega) b (p + 2) hb (by omega) (by omega)
  unfold spec_l2Edge.f
  simp only [h1, h2, Option.bind_some]
  by_cases c : (ns.length : Int) > 1
  · rw [if_pos c]
    obtain ⟨t, ht, _, _⟩ := pick_ok k (by omega) b (p + 2 + 2) 8 hb (by omega) (by omega) (by omega)
    simp only [ht, Option.bind_some]
    obtain ⟨l, a, c, d, e, q, h, q0, q1⟩ := edge_j0 k (by omega) b (p + 2 + 2 + 1) hb (by omega) (by omega) (decide (t > 0)) ns es (fun _ => by omega) x y u v
    exact ⟨l, a, c, d, e, q, h, by omega, by omega⟩
  · rw [if_neg c]
    obtain ⟨l, a, c, d, e, q, h, q0, q1⟩ := edge_j0 k (by omega) b (p + 2 + 2) hb (by omega) (by omega) false ns es (fun h => by cases h) x y u v
    exact ⟨l, a, c, d, e, q, h, by omega, by omega⟩
/-- What a drawn operation is: eight numbers, and how far the reader has gone. -/
def Op8 (r : Option (Int × Int × Int × Int × Int × Int × Int × Int × Int)) (p c : Int) : Prop := ∃ a0 a1 a2 a3 a4 a5 a6 a7 q, r = some (a0, a1, a2, a3, a4, a5, a6, a7, q) ∧ p ≤ q ∧ q ≤ p + c
theorem Op8.up {r p c p' c'} (h : Op8 r p c) (h1 : p' ≤ p) (h2 : p + c ≤ p' + c') : Op8 r p' c' := by
  obtain ⟨a0, a1, a2, a3, a4, a5, a6, a7, q, h, q0, q1⟩ := h
  exact ⟨a0, a1, a2, a3, a4, a5, a6, a7, q, h, by omega, by omega⟩
theorem op_j0 (k : Nat) (hk : 2 ≤ k) (b : List Int) (p : Int) (hb : ∀ x ∈ b, 0 ≤ x ∧ x ≤ 255) (hp0 : 0 ≤ p) (hp : p ≤ 900000) (a0 a1 a2 a3 a4 a5 a6 a7 : Int) : Op8 (spec_l2Op.j0 k b p a0 a1 a2 a3 a4 a5 a6 a7) p 2 := by
  obtain ⟨k, rfl⟩ : ∃ m, k = m + 1 := ⟨k - 1, by omega⟩
  obtain ⟨t, ht, _, _⟩ := pick_ok k (by omega) b p 60 hb hp0 (by omega) (by omega)
  obtain ⟨n0, h0, _⟩ := num_ok k (by omega) b (p + 1) [0, 5, (-1), 2] hb (by omega) (by omega) (by decide)
  obtain ⟨n1, h1, _⟩ := num_ok k (by omega) b (p + 1) [(-1), 41, 5] hb (by omega) (by omega) (by decide)
  obtain ⟨n2, h2, _⟩ := num_ok k (by omega) b (p + 1) [0, 8, (-1)] hb (by omega) (by omega) (by decide)
  simp only [spec_l2Op.j0, ht, h0, h1, h2, Option.bind_some]
  repeat' split
  all_goals exact ⟨_, _, _, _, _, _, _, _, _, rfl, by omega, by omega⟩
theorem op_ok (k : Nat) (hk : 11 ≤ k) (b : List Int) (p : Int) (hb : ∀ x ∈ b, 0 ≤ x ∧ x ≤ 255) (hp0 : 0 ≤ p) (hp : p ≤ 600000) (ns : List S36) (es : List S56) : Op8 (spec_l2Op.f k b p ns es) p 20 := by
  obtain ⟨t, ht, _⟩ := num_ok k (by omega) b p [1, 2, 2, 1, 2, 3, 4, 2] hb hp0 (by omega) (by decide)
  obtain ⟨x, y, h1⟩ := node_ok k (by omega) b (p + 1) hb (by omega) (by omega)
  obtain ⟨l, a, c, d, e, q, h2, q0, q1⟩ := edge_ok k hk b (p + 1) hb (by omega) (by omega) ns es
  obtain ⟨u, hu, _, _⟩ := pick_ok k (by omega) b q 4 hb (by omega) (by omega) (by omega)
  obtain ⟨w, hw, _, _⟩ := pick_ok k (by omega) b (p + 1 + 2) 2 hb (by omega) (by omega) (by omega)
  unfold spec_l2Op.f
  simp only [ht, h1, h2, hu, hw, Option.bind_some]
  by_cases c1 : t = 1
  · rw [if_pos c1]; exact (op_j0 k (by omega) b _ hb (by omega) (by omega) _ _ _ _ _ _ _ _).up (by omega) (by omega)
  rw [if_neg c1]
  by_cases c2 : t = 2
  · rw [if_pos c2]; exact (op_j0 k (by omega) b _ hb (by omega) (by omega) _ _ _ _ _ _ _ _).up (by omega) (by omega)
  rw [if_neg c2]
  by_cases c3 : t = 3
  · rw [if_pos c3]
    by_cases c4 : (es.length : Int) > 0
    · rw [if_pos c4]
      by_cases c5 : u > 0
      · rw [if_pos c5]
        obtain ⟨j, hj, j0, j1⟩ := pick_ok k (by omega) b (q + 1) es.length hb (by omega) (by omega) (by omega)
        rw [hj]; simp only [Option.bind_some]
        rw [if_pos j0, if_pos j1]
        exact (op_j0 k (by omega) b _ hb (by omega) (by omega) _ _ _ _ _ _ _ _).up (by omega) (by omega)
      · rw [if_neg c5]; exact (op_j0 k (by omega) b _ hb (by omega) (by omega) _ _ _ _ _ _ _ _).up (by omega) (by omega)
    · rw [if_neg c4]; exact (op_j0 k (by omega) b _ hb (by omega) (by omega) _ _ _ _ _ _ _ _).up (by omega) (by omega)
  rw [if_neg c3]
  by_cases c6 : t = 4
  · rw [if_pos c6]
    by_cases c4 : (ns.length : Int) > 0
    · rw [if_pos c4]
      by_cases c5 : w > 0
      · rw [if_pos c5]
        obtain ⟨j, hj, j0, j1⟩ := pick_ok k (by omega) b (p + 1 + 2 + 1) ns.length hb (by omega) (by omega) (by omega)
        rw [hj]; simp only [Option.bind_some]
        rw [if_pos j0, if_pos j1]
        exact (op_j0 k (by omega) b _ hb (by omega) (by omega) _ _ _ _ _ _ _ _).up (by omega) (by omega)
      · rw [if_neg c5]; exact (op_j0 k (by omega) b _ hb (by omega) (by omega) _ _ _ _ _ _ _ _).up (by omega) (by omega)
    · rw [if_neg c4]; exact (op_j0 k (by omega) b _ hb (by omega) (by omega) _ _ _ _ _ _ _ _).up (by omega) (by omega)
  · rw [if_neg c6]; exact (op_j0 k (by omega) b _ hb (by omega) (by omega) _ _ _ _ _ _ _ _).up (by omega) (by omega)
theorem opLabel_tot (k : Nat) (hk : 2 ≤ k) (a0 a1 a2 a3 a4 a5 a6 a7 : Int) : ∃ r, spec_OpLabel.f k a0 a1 a2 a3 a4 a5 a6 a7 = some r := by
  obtain ⟨k, rfl⟩ : ∃ m, k = m + 2 := ⟨k - 2, by omega⟩
  unfold spec_OpLabel.f
  simp only [spec_OpLabel.j0, spec_OpLabel.j1, spec_EdgeOk.f, sN, Option.bind_some]
  repeat' split
  all_goals exact ⟨_, rfl⟩
theorem edgeAt_l0 (ns : List S36) (es : List S56) (hm : es.length ≤ 2097152) (a b c d e : Int) : ∀ (n k i : Nat), i + n = es.length → n < k → ∃ r, spec_l2EdgeAt.l0 k i ns es a b c d e = some r := by
  intro n
  induction n with
  | zero =>
    intro k i hd hk
    obtain ⟨k, rfl⟩ : ∃ m, k = m + 1 := ⟨k - 1, by omega⟩
    simp only [spec_l2EdgeAt.l0]; rw [if_neg (by omega)]; exact ⟨_, rfl⟩
  | succ n ih =>
    intro k i hd hk
    obtain ⟨k, rfl⟩ : ∃ m, k = m + 1 := ⟨k - 1, by omega⟩
    simp only [spec_l2EdgeAt.l0]
    rw [if_pos (by omega), if_pos (by omega), w64 (x := (i : Int) + 1) (by omega), show (i : Int) + 1 = ((i + 1 : Nat) : Int) by omega]
    split
    · exact ⟨_, rfl⟩
    · exact ih k (i + 1) (by omega) (by omega)
theorem ends_tot (ns : List S36) (es : List S56) (hn : ns.length ≤ 2097152) (hm : es.length ≤ 2097152) (k : Nat) (hk : ns.length + es.length + 4 < k) (a0 a1 a2 a3 a4 a5 a6 a7 : Int) : ∃ r, spec_l2Ends.f k ns es a0 a1 a2 a3 a4 a5 a6 a7 = some r := by
  obtain ⟨r1, h1, _⟩ := at_ok ns es hn a1 a2 k (by omega)
  obtain ⟨r2, h2⟩ := edgeAt_l0 ns es hm a3 a4 a5 a6 a7 es.length k 0 (by omega) (by omega)
  obtain ⟨r3, h3, _⟩ := at_ok ns es hn a4 a5 k (by omega)
  obtain ⟨r4, h4, _⟩ := at_ok ns es hn a6 a7 k (by omega)
  unfold spec_l2Ends.f spec_l2EdgeAt.f
  rw [show ((0 : Nat) : Int) = 0 from rfl] at h2
  simp only [h1, h2, h3, h4, Option.bind_some]
  obtain ⟨k, rfl⟩ : ∃ m, k = m + 3 := ⟨k - 3, by omega⟩
  have n0 := cntN_l0 ns es hn a1 ns.length k 0 0 (by omega) (by omega) (by omega)
  have e0 := cntE_l0 ns es hm a3 es.length k 0 0 (by omega) (by omega) (by omega)
  rw [show ((0 : Nat) : Int) = 0 from rfl] at n0 e0
  have j2 : ∀ t, ∃ r, spec_l2Ends.j2 (k + 1) t ns es a0 a1 a2 a3 a4 a5 a6 a7 = some r := by
    intro t
    simp only [spec_l2Ends.j2, spec_l2Nodes.f, spec_l2Edges.f, n0, e0, Option.bind_some]
    repeat' split
    all_goals exact ⟨_, rfl⟩
  have j1 : ∀ t u v w, ∃ r, spec_l2Ends.j1 (k + 2) t u v w ns es a0 a1 a2 a3 a4 a5 a6 a7 = some r := by
    intro t u v w
    simp only [spec_l2Ends.j1]
    repeat' split
    all_goals first | exact ⟨_, rfl⟩ | exact j2 _
  have j0 : ∀ t u v, ∃ r, spec_l2Ends.j0 (k + 3) t u v ns es a0 a1 a2 a3 a4 a5 a6 a7 = some r := by
    intro t u v
    simp only [spec_l2Ends.j0]
    repeat' split
    all_goals exact j1 _ _ _ _
  split <;> exact j0 _ _ _
theorem copy_ok (ns : List S36) (es : List S56) (hn : ns.length ≤ 2097152) (hm : es.length ≤ 2097152) : spec_l2Copy.f ns es = some (ns, es) := by
  unfold spec_l2Copy.f
  simp only [Option.bind_some, List.length_nil, Nat.zero_add, List.nil_append]
  rw [if_pos (by omega), if_pos (by omega)]
theorem putN_l0 (ns : List S36) (es : List S56) (hn : ns.length ≤ 2097152) (a b : Int) : ∀ (d k i : Nat), i + d = ns.length → d < k → ∃ ns', spec_l2PutNode.l0 k i ns es a b = some (ns', es) ∧ ns'.length = ns.length + 1 := by
  intro d
  have fin : ∀ i : Nat, i ≤ ns.length → ∃ ns' : List S36, (some (([] : List S36) : List S36)).bind (fun y => if (i : Int) ≤ (ns.length : Int) then ((some (ns.drop (i : Int).toNat : List S36)).bind fun y1 => (if y.length + y1.length < 8796093022208 then ((some (y ++ y1 : List S36)).bind fun y2 => ((some (ns.take (i : Int).toNat : List S36)).bind fun y3 => (if y3.length < 8796093022208 then ((some (y3 ++ [(⟨a, b⟩ : S36)] : List S36)).bind fun y4 => (if y4.length + y2.length < 8796093022208 then (some ((y4 ++ y2), es)) else (none))) else (none)))) else (none))) else (none)) = some (ns', es) ∧ ns'.length = ns.length + 1 := by
    intro i hi
    simp only [Option.bind_some, Int.toNat_natCast]
    rw [if_pos (by omega), if_pos (by simp; omega), if_pos (by simp; omega), if_pos (by simp; omega)]
    exact ⟨_, rfl, by simp; omega⟩
  induction d with
  | zero =>
    intro k i hd hk
    obtain ⟨k, rfl⟩ : ∃ m, k = m + 1 := ⟨k - 1, by omega⟩
    simp only [spec_l2PutNode.l0]
    rw [if_neg (by omega)]
    have := fin i (by omega)
    simpa only [if_pos (show 0 ≤ (i : Int) by omega)] using this
  | succ d ih =>
    intro k i hd hk
    obtain ⟨k, rfl⟩ : ∃ m, k = m + 1 := ⟨k - 1, by omega⟩
    simp only [spec_l2PutNode.l0, spec_l2Code.f]
    rw [if_pos (by omega), if_pos (by omega), w64 (x := (i : Int) + 1) (by omega), Option.bind_some, Option.bind_some]
    split
    · have := ih k (i + 1) (by omega) (by omega)
      rwa [show ((i + 1 : Nat) : Int) = (i : Int) + 1 by omega] at this
    · exact fin i (by omega)
theorem putN_ok (ns : List S36) (es : List S56) (hn : ns.length ≤ 2097152) (a b : Int) (k : Nat) (hk : ns.length < k) : ∃ ns', spec_l2PutNode.f k ns es a b = some (ns', es) ∧ ns'.length = ns.length + 1 := putN_l0 ns es hn a b ns.length k 0 (by omega) hk
theorem putE_l0 (ns : List S36) (es : List S56) (hm : es.length ≤ 2097152) (a b c d' e : Int) : ∀ (d k i : Nat), i + d = es.length → d < k → ∃ es', spec_l2PutEdge.l0 k i ns es a b c d' e = some (ns, es') ∧ es'.length = es.length + 1 := by
  intro d
  have fin : ∀ i : Nat, i ≤ es.length → ∃ es' : List S56, (some (([] : List S56) : List S56)).bind (fun y => if (i : Int) ≤ (es.length : Int) then ((some (es.drop (i : Int).toNat : List S56)).bind fun y1 => (if y.length + y1.length < 3518437208883 then ((some (y ++ y1 : List S56)).bind fun y2 => ((some (es.take (i : Int).toNat : List S56)).bind fun y3 => (if y3.length < 3518437208883 then ((some (y3 ++ [(⟨a, (⟨b, c⟩ : S36), (⟨d', e⟩ : S36)⟩ : S56)] : List S56)).bind fun y4 => (if y4.length + y2.length < 3518437208883 then (some (ns, (y4 ++ y2))) else (none))) else (none)))) else (none))) else (none)) = some (ns, es') ∧ es'.length = es.length + 1 := by
    intro i hi
    simp only [Option.bind_some, Int.toNat_natCast]
    rw [if_pos (by omega), if_pos (by simp; omega), if_pos (by simp; omega), if_pos (by simp; omega)]
    exact ⟨_, rfl, by simp; omega⟩
  induction d with
  | zero =>
    intro k i hd hk
    obtain ⟨k, rfl⟩ : ∃ m, k = m + 1 := ⟨k - 1, by omega⟩
    simp only [spec_l2PutEdge.l0]
    rw [if_neg (by omega)]
    have := fin i (by omega)
    simpa only [if_pos (show 0 ≤ (i : Int) by omega)] using this
  | succ d ih =>
    intro k i hd hk
    obtain ⟨k, rfl⟩ : ∃ m, k = m + 1 := ⟨k - 1, by omega⟩
    obtain ⟨t, ht⟩ := less_tot (rd_T56 es i).f0 (rd_T56 es i).f1.f0 (rd_T56 es i).f1.f1 (rd_T56 es i).f2.f0 (rd_T56 es i).f2.f1 a b c d' e
    simp only [spec_l2PutEdge.l0]
    rw [if_pos (by omega), if_pos (by omega), w64 (x := (i : Int) + 1) (by omega), ht, Option.bind_some]
    split
    · have := ih k (i + 1) (by omega) (by omega)
      rwa [show ((i + 1 : Nat) : Int) = (i : Int) + 1 by omega] at this
    · exact fin i (by omega)
theorem cut_l0 (ns : List S36) (es : List S56) (hm : es.length ≤ 2097152) (a b c d' e : Int) : ∀ (d k i : Nat) (out : List S56), i + d = es.length → out.length ≤ i → d < k → ∃ es', spec_l2Cut.l0 k out i ns es a b c d' e = some (ns, es') ∧ es'.length ≤ es.length := by
  intro d
  induction d with
  | zero =>
    intro k i out hd ho hk
    obtain ⟨k, rfl⟩ : ∃ m, k = m + 1 := ⟨k - 1, by omega⟩
    simp only [spec_l2Cut.l0]; rw [if_neg (by omega)]; exact ⟨_, rfl, by omega⟩
  | succ d ih =>
    intro k i out hd ho hk
    obtain ⟨k, rfl⟩ : ∃ m, k = m + 1 := ⟨k - 1, by omega⟩
    simp only [spec_l2Cut.l0]
    rw [if_pos (by omega), if_pos (by omega), w64 (x := (i : Int) + 1) (by omega), show (i : Int) + 1 = ((i + 1 : Nat) : Int) by omega]
    split
    · rw [if_pos (by omega)]; exact ih k (i + 1) _ (by omega) (by simp; omega) (by omega)
    · exact ih k (i + 1) _ (by omega) (by omega) (by omega)
theorem off_l1 (ns : List S36) (es : List S56) (hm : es.length ≤ 2097152) (a b : Int) (on_ : List S36) : ∀ (d k i : Nat) (out : List S56), i + d = es.length → out.length ≤ i → d < k → ∃ es', spec_l2Off.l1 k i ns es a b on_ out = some (on_, es') ∧ es'.length ≤ es.length := by
  intro d
  induction d with
  | zero =>
    intro k i out hd ho hk
    obtain ⟨k, rfl⟩ : ∃ m, k = m + 1 := ⟨k - 1, by omega⟩
    simp only [spec_l2Off.l1]; rw [if_neg (by omega)]; exact ⟨_, rfl, by omega⟩
  | succ d ih =>
    intro k i out hd ho hk
    obtain ⟨k, rfl⟩ : ∃ m, k = m + 1 := ⟨k - 1, by omega⟩
    simp only [spec_l2Off.l1]
    rw [if_pos (by omega), if_pos (by omega), w64 (x := (i : Int) + 1) (by omega), show (i : Int) + 1 = ((i + 1 : Nat) : Int) by omega]
    split
    · split
      · rw [if_pos (by omega)]; exact ih k (i + 1) _ (by omega) (by simp; omega) (by omega)
      · exact ih k (i + 1) _ (by omega) (by omega) (by omega)
    · exact ih k (i + 1) _ (by omega) (by omega) (by omega)
theorem off_l0 (ns : List S36) (es : List S56) (hn : ns.length ≤ 2097152) (hm : es.length ≤ 2097152) (a b : Int) : ∀ (d k i : Nat) (out : List S36), i + d = ns.length → out.length ≤ i → d + es.length + 1 < k → ∃ ns' es', spec_l2Off.l0 k i ns es a b out [] = some (ns', es') ∧ ns'.length ≤ ns.length ∧ es'.length ≤ es.length := by
  intro d
  induction d with
  | zero =>
    intro k i out hd ho hk
    obtain ⟨k, rfl⟩ : ∃ m, k = m + 1 := ⟨k - 1, by omega⟩
    simp only [spec_l2Off.l0]; rw [if_neg (by omega)]
    obtain ⟨es', h, hl⟩ := off_l1 ns es hm a b out es.length k 0 [] (by omega) (by simp) (by omega)
    exact ⟨out, es', h, by omega, hl⟩
  | succ d ih =>
    intro k i out hd ho hk
    obtain ⟨k, rfl⟩ : ∃ m, k = m + 1 := ⟨k - 1, by omega⟩
    simp only [spec_l2Off.l0]
    rw [if_pos (by omega), if_pos (by omega), w64 (x := (i : Int) + 1) (by omega), show (i : Int) + 1 = ((i + 1 : Nat) : Int) by omega]
    split
    · rw [if_pos (by omega)]; exact ih k (i + 1) _ (by omega) (by simp; omega) (by omega)
    · exact ih k (i + 1) _ (by omega) (by omega) (by omega)
theorem do_ok (ns : List S36) (es : List S56) (hn : ns.length ≤ 2097151) (hm : es.length ≤ 2097151) (k : Nat) (hk : ns.length + es.length + 4 < k) (a0 a1 a2 a3 a4 a5 a6 a7 : Int) :
    ∃ ns' es' c, spec_l2Do.f k ns es a0 a1 a2 a3 a4 a5 a6 a7 = some (ns', es', c) ∧ ns'.length ≤ ns.length + 1 ∧ es'.length ≤ es.length + 1 := by
  obtain ⟨t, ht⟩ := opLabel_tot k (by omega) a0 a1 a2 a3 a4 a5 a6 a7
  obtain ⟨u, hu⟩ := ends_tot ns es (by omega) (by omega) k hk a0 a1 a2 a3 a4 a5 a6 a7
  obtain ⟨n1, p1, l1⟩ := putN_ok ns es (by omega) a1 a2 k (by omega)
  obtain ⟨e1, p2, l2⟩ := putE_l0 ns es (by omega) a3 a4 a5 a6 a7 es.length k 0 (by omega) (by omega)
  obtain ⟨e2, p3, l3⟩ := cut_l0 ns es (by omega) a3 a4 a5 a6 a7 es.length k 0 [] (by omega) (by simp) (by omega)
  obtain ⟨n4, e4, p4, l4, l5⟩ := off_l0 ns es (by omega) (by omega) a1 a2 ns.length k 0 [] (by omega) (by simp) (by omega)
  rw [show ((0 : Nat) : Int) = 0 from rfl] at p2 p3 p4
  unfold spec_l2Do.f spec_l2PutEdge.f spec_l2Cut.f spec_l2Off.f
  simp only [ht, hu, copy_ok ns es (show ns.length ≤ 2097152 by omega) (show es.length ≤ 2097152 by omega), p1, p2, p3, p4, Option.bind_some]
  repeat' split
  all_goals exact ⟨_, _, _, rfl, by omega, by omega⟩
theorem graph_l0 (b : List Int) (hb : ∀ x ∈ b, 0 ≤ x ∧ x ≤ 255) : ∀ (d k : Nat) (p : Int) (ns : List S36) (es : List S56), 0 ≤ p → p + 20 * d ≤ 500000 → ns.length + d ≤ 100 → es.length + d ≤ 100 → d + 300 < k →
    ∃ ns' es' q, spec_l2Graph.l0 k d b p ns es = some (ns', es', q) ∧ ns'.length ≤ 100 ∧ es'.length ≤ 100 ∧ 0 ≤ q ∧ q ≤ p + 20 * d := by
  intro d
  induction d with
  | zero =>
    intro k p ns es hp0 hp hn hm hk
    obtain ⟨k, rfl⟩ : ∃ m, k = m + 1 := ⟨k - 1, by omega⟩
    simp only [spec_l2Graph.l0]
    rw [if_neg (by omega), copy_ok ns es (by omega) (by omega)]
    exact ⟨_, _, _, rfl, by omega, by omega, by omega, by omega⟩
  | succ d ih =>
    intro k p ns es hp0 hp hn hm hk
    obtain ⟨k, rfl⟩ : ∃ m, k = m + 1 := ⟨k - 1, by omega⟩
    obtain ⟨a0, a1, a2, a3, a4, a5, a6, a7, q, h1, q0, q1⟩ := op_ok k (by omega) b p hb hp0 (by omega) ns es
    obtain ⟨ns', es', c, h2, l1, l2⟩ := do_ok ns es (by omega) (by omega) k (by omega) a0 a1 a2 a3 a4 a5 a6 a7
    simp only [spec_l2Graph.l0, h1, h2, Option.bind_some]
    rw [if_pos (by omega), w64 (x := ((d + 1 : Nat) : Int) - 1) (by omega), show ((d + 1 : Nat) : Int) - 1 = (d : Int) by omega]
    obtain ⟨n, e, r, h3, l3, l4, r0, r1⟩ := ih k q ns' es' (by omega) (by omega) (by omega) (by omega) (by omega)
    exact ⟨n, e, r, h3, l3, l4, r0, by omega⟩
theorem graph_ok (b : List Int) (hb : ∀ x ∈ b, 0 ≤ x ∧ x ≤ 255) (k : Nat) (hk : 400 < k) (p : Int) (hp0 : 0 ≤ p) (hp : p ≤ 400000) :
    ∃ ns es q, spec_l2Graph.f k b p = some (ns, es, q) ∧ ns.length ≤ 100 ∧ es.length ≤ 100 ∧ 0 ≤ q ∧ q ≤ p + 1300 := by
  obtain ⟨t, ht, tm⟩ := num_ok k (by omega) b p [12, 24, 36, 48, 60, 5, 0] hb hp0 (by omega) (by decide)
  have t0 : 0 ≤ t ∧ t ≤ 60 := by simp at tm; omega
  obtain ⟨d, rfl⟩ := Int.eq_ofNat_of_zero_le t0.1
  obtain ⟨ns, es, q, h, l1, l2, q0, q1⟩ := graph_l0 b hb d k (p + 1) [] [] (by omega) (by omega) (by simp; omega) (by simp; omega) (by omega)
  exact ⟨ns, es, q, by unfold spec_l2Graph.f; rw [ht]; exact h, l1, l2, q0, by omega⟩
theorem bent_l0 (b : List Int) (es : List S56) (p : Int) : ∀ (d k : Nat) (i : Int) (ns : List S36), i + d = 36 → 0 ≤ i → ns.length + d ≤ 200 → d + 201 < k → ∃ ns', spec_l2Bent.l0 k i b p ns es = some (ns', es, p) ∧ ns'.length ≤ ns.length + d := by
  intro d
  induction d with
  | zero =>
    intro k i ns hd hi hn hk
    obtain ⟨k, rfl⟩ : ∃ m, k = m + 1 := ⟨k - 1, by omega⟩
    simp only [spec_l2Bent.l0]; rw [if_neg (by omega)]; exact ⟨_, rfl, by omega⟩
  | succ d ih =>
    intro k i ns hd hi hn hk
    obtain ⟨k, rfl⟩ : ∃ m, k = m + 1 := ⟨k - 1, by omega⟩
    obtain ⟨n1, h1, l1⟩ := putN_ok ns es (by omega) 5 i k (by omega)
    simp only [spec_l2Bent.l0, h1, Option.bind_some]
    rw [if_pos (by omega), w64 (x := i + 1) (by omega)]
    obtain ⟨n2, h2, l2⟩ := ih k (i + 1) n1 (by omega) (by omega) (by omega) (by omega)
    exact ⟨n2, h2, by omega⟩
theorem bent_ok (b : List Int) (hb : ∀ x ∈ b, 0 ≤ x ∧ x ≤ 255) (k : Nat) (hk : 400 < k) (p : Int) (hp0 : 0 ≤ p) (hp : p ≤ 800000) (ns : List S36) (es : List S56) (hn : ns.length ≤ 150) (hm : es.length ≤ 150) :
    ∃ ns' es' q, spec_l2Bent.f k b p ns es = some (ns', es', q) ∧ ns'.length ≤ ns.length + 6 ∧ es'.length ≤ es.length + 1 ∧ 0 ≤ q ∧ q ≤ p + 3 := by
  obtain ⟨t, ht, _, _⟩ := pick_ok k (by omega) b p 60 hb hp0 (by omega) (by omega)
  unfold spec_l2Bent.f
  simp only [copy_ok ns es (show ns.length ≤ 2097152 by omega) (show es.length ≤ 2097152 by omega), ht, Option.bind_some]
  by_cases c0 : t = 0
  · rw [if_pos c0]
    by_cases c : (ns.length : Int) > 0
    · rw [if_pos c]
      obtain ⟨j, hj, j0, j1⟩ := pick_ok k (by omega) b (p + 1) ns.length hb (by omega) (by omega) (by omega)
      obtain ⟨w, hw, _⟩ := num_ok k (by omega) b (p + 1 + 1) [(-1), 41, 39] hb (by omega) (by omega) (by decide)
      simp only [hj, hw, Option.bind_some]
      rw [if_pos j0, if_pos j1]
      exact ⟨_, _, _, rfl, by simp, by omega, by omega, by omega⟩
    · rw [if_neg c]; exact ⟨_, _, _, rfl, by omega, by omega, by omega, by omega⟩
  rw [if_neg c0]
  by_cases c1 : t = 1
  · rw [if_pos c1]
    by_cases c : (ns.length : Int) > 0
    · rw [if_pos c, if_pos (by omega), if_pos (by omega)]; exact ⟨_, _, _, rfl, by simp, by omega, by omega, by omega⟩
    · rw [if_neg c]; exact ⟨_, _, _, rfl, by omega, by omega, by omega, by omega⟩
  rw [if_neg c1]
  by_cases c2 : t = 2
  · rw [if_pos c2]
    by_cases c : (ns.length : Int) > 0
    · rw [if_pos c, if_pos (by omega)]; exact ⟨_, _, _, rfl, by simp; omega, by omega, by omega, by omega⟩
    · rw [if_neg c]; exact ⟨_, _, _, rfl, by omega, by omega, by omega, by omega⟩
  rw [if_neg c2]
  by_cases c3 : t = 3
  · rw [if_pos c3]
    by_cases c : (es.length : Int) > 0
    · rw [if_pos c]
      obtain ⟨j, hj, j0, j1⟩ := pick_ok k (by omega) b (p + 1) es.length hb (by omega) (by omega) (by omega)
      obtain ⟨w, hw, _⟩ := num_ok k (by omega) b (p + 1 + 1) [0, 8, (-1), 7] hb (by omega) (by omega) (by decide)
      simp only [hj, hw, Option.bind_some]
      rw [if_pos j0, if_pos j1]
      exact ⟨_, _, _, rfl, by omega, by simp, by omega, by omega⟩
    · rw [if_neg c]; exact ⟨_, _, _, rfl, by omega, by omega, by omega, by omega⟩
  rw [if_neg c3]
  by_cases c4 : t = 4
  · rw [if_pos c4]
    by_cases c : (es.length : Int) > 0
    · rw [if_pos c, if_pos (by omega), if_pos (by omega)]; exact ⟨_, _, _, rfl, by omega, by simp, by omega, by omega⟩
    · rw [if_neg c]; exact ⟨_, _, _, rfl, by omega, by omega, by omega, by omega⟩
  rw [if_neg c4]
  by_cases c5 : t = 5
  · rw [if_pos c5]
    obtain ⟨n2, h2, l2⟩ := bent_l0 b es (p + 1) 6 k 30 ns (by omega) (by omega) (by omega) (by omega)
    exact ⟨n2, es, p + 1, h2, by omega, by omega, by omega, by omega⟩
  · rw [if_neg c5]; exact ⟨_, _, _, rfl, by omega, by omega, by omega, by omega⟩

/-- No node has the number 38. -/
def N38 (ns : List S36) : Prop := ∀ x ∈ ns, x.f1 ≠ 38
theorem N38_rd {ns : List S36} (h : N38 ns) (i : Int) : (rd_T36 ns i).f1 ≠ 38 := by
  unfold rd_T36
  rw [List.getD_eq_getElem?_getD]
  cases e : ns[i.toNat]? with
  | none => decide
  | some x => exact h x (List.mem_of_getElem? e)
theorem bnd {α β : Type} {o : Option α} {f : α → Option β} {b : β} (h : o.bind f = some b) : ∃ a, o = some a ∧ f a = some b := Option.bind_eq_some_iff.1 h
theorem ite1 {α : Type} {c : Prop} [Decidable c] {a : Option α} {b : α} (h : (if c then a else none) = some b) : c ∧ a = some b := by
  by_cases k : c
  · rw [if_pos k] at h; exact ⟨k, h⟩
  · rw [if_neg k] at h; cases h
theorem num_mem {k : Nat} {b l : List Int} {p v q : Int} (h : spec_l9Rd_num.f k b p l = some (v, q)) : v ∈ l := by
  unfold spec_l9Rd_num.f at h
  obtain ⟨s, _, h⟩ := bnd h
  obtain ⟨h0, h⟩ := ite1 h
  obtain ⟨h1, h⟩ := ite1 h
  have e : rd l s.1 = v := by injection h with h; injection h
  subst e
  unfold rd
  rw [List.getD_eq_getElem?_getD, List.getElem?_eq_getElem (by omega)]
  exact List.getElem_mem _
theorem node_38 {k : Nat} {b : List Int} {p : Int} {r : Int × Int × Int} (h : spec_l2Node.f k b p = some r) : r.2.1 ≠ 38 := by
  unfold spec_l2Node.f at h
  obtain ⟨s, _, h⟩ := bnd h
  obtain ⟨t, ht, h⟩ := bnd h
  have m := num_mem (v := t.1) (q := t.2) ht
  injection h with h; subst h
  show t.1 ≠ 38
  simp at m; omega
theorem opj_38 {k : Nat} {b : List Int} {p a0 a1 a2 a3 a4 a5 a6 a7 : Int} {r} (h : spec_l2Op.j0 k b p a0 a1 a2 a3 a4 a5 a6 a7 = some r) (h2 : a2 ≠ 38) : r.2.2.1 ≠ 38 := by
  cases k with
  | zero => cases h
  | succ k =>
    simp only [spec_l2Op.j0] at h
    obtain ⟨s, _, h⟩ := bnd h
    split at h
    · obtain ⟨t, ht, h⟩ := bnd h; injection h with h; subst h; exact h2
    split at h
    · obtain ⟨t, ht, h⟩ := bnd h
      have m := num_mem (v := t.1) (q := t.2) ht
      injection h with h; subst h
      show t.1 ≠ 38
      simp at m; omega
    split at h
    · obtain ⟨t, ht, h⟩ := bnd h; injection h with h; subst h; exact h2
    split at h <;> (injection h with h; subst h; exact h2)
theorem op_38 {k : Nat} {b : List Int} {p : Int} {ns : List S36} {es : List S56} {r} (h : spec_l2Op.f k b p ns es = some r) (hn : N38 ns) : r.2.2.1 ≠ 38 := by
  unfold spec_l2Op.f at h
  obtain ⟨s, _, h⟩ := bnd h
  split at h
  · obtain ⟨t, ht, h⟩ := bnd h; exact opj_38 h (node_38 ht)
  split at h
  · obtain ⟨t, ht, h⟩ := bnd h; exact opj_38 h (by decide)
  split at h
  · obtain ⟨t, ht, h⟩ := bnd h
    split at h
    · obtain ⟨u, hu, h⟩ := bnd h
      split at h
      · obtain ⟨w, hw, h⟩ := bnd h
        obtain ⟨_, h⟩ := ite1 h
        obtain ⟨_, h⟩ := ite1 h
        exact opj_38 h (by decide)
      · exact opj_38 h (by decide)
    · exact opj_38 h (by decide)
  split at h
  · obtain ⟨t, ht, h⟩ := bnd h
    split at h
    · obtain ⟨u, hu, h⟩ := bnd h
      split at h
      · obtain ⟨w, hw, h⟩ := bnd h
        obtain ⟨_, h⟩ := ite1 h
        obtain ⟨_, h⟩ := ite1 h
        exact opj_38 h (N38_rd hn _)
      · exact opj_38 h (node_38 ht)
    · exact opj_38 h (node_38 ht)
  · exact opj_38 h (by decide)
theorem copy_38 {ns : List S36} {es : List S56} {r} (h : spec_l2Copy.f ns es = some r) : r = (ns, es) := by
  unfold spec_l2Copy.f at h
  simp only [Option.bind_some] at h
  obtain ⟨_, h⟩ := ite1 h
  obtain ⟨_, h⟩ := ite1 h
  injection h with h; subst h; rfl
theorem putN_38 {ns : List S36} {es : List S56} {a b : Int} (hn : N38 ns) (hb : b ≠ 38) : ∀ (k : Nat) (i : Int) {r}, spec_l2PutNode.l0 k i ns es a b = some r → N38 r.1 := by
  intro k
  have fin : ∀ i : Nat, N38 (((ns.take i ++ [(⟨a, b⟩ : S36)]) ++ ([] ++ ns.drop i))) := by
    intro i x hx
    simp only [List.mem_append, List.mem_singleton, List.not_mem_nil, false_or] at hx
    rcases hx with (hx | hx) | hx
    · exact hn x (List.mem_of_mem_take hx)
    · subst hx; exact hb
    · exact hn x (List.mem_of_mem_drop hx)
  induction k with
  | zero => intro i r h; cases h
  | succ k ih =>
    intro i r h
    simp only [spec_l2PutNode.l0, Option.bind_some] at h
    split at h
    · obtain ⟨_, h⟩ := ite1 h
      obtain ⟨t, _, h⟩ := bnd h
      obtain ⟨u, _, h⟩ := bnd h
      split at h
      · exact ih _ h
      · obtain ⟨_, h⟩ := ite1 h
        obtain ⟨_, h⟩ := ite1 h
        obtain ⟨_, h⟩ := ite1 h
        obtain ⟨_, h⟩ := ite1 h
        injection h with h; subst h; exact fin _
    · obtain ⟨_, h⟩ := ite1 h
      obtain ⟨_, h⟩ := ite1 h
      obtain ⟨_, h⟩ := ite1 h
      obtain ⟨_, h⟩ := ite1 h
      obtain ⟨_, h⟩ := ite1 h
      injection h with h; subst h; exact fin _
theorem putE_38 {ns : List S36} {es : List S56} {a b c d e : Int} : ∀ (k : Nat) (i : Int) {r}, spec_l2PutEdge.l0 k i ns es a b c d e = some r → r.1 = ns := by
  intro k
  induction k with
  | zero => intro i r h; cases h
  | succ k ih =>
    intro i r h
    simp only [spec_l2PutEdge.l0, Option.bind_some] at h
    split at h
    · obtain ⟨_, h⟩ := ite1 h
      obtain ⟨t, _, h⟩ := bnd h
      split at h
      · exact ih _ h
      · obtain ⟨_, h⟩ := ite1 h
        obtain ⟨_, h⟩ := ite1 h
        obtain ⟨_, h⟩ := ite1 h
        obtain ⟨_, h⟩ := ite1 h
        injection h with h; subst h; rfl
    · obtain ⟨_, h⟩ := ite1 h
      obtain ⟨_, h⟩ := ite1 h
      obtain ⟨_, h⟩ := ite1 h
      obtain ⟨_, h⟩ := ite1 h
      obtain ⟨_, h⟩ := ite1 h
      injection h with h; subst h; rfl
theorem cut_38 {ns : List S36} {es : List S56} {a b c d e : Int} : ∀ (k : Nat) (out : List S56) (i : Int) {r}, spec_l2Cut.l0 k out i ns es a b c d e = some r → r.1 = ns := by
  intro k
  induction k with
  | zero => intro out i r h; cases h
  | succ k ih =>
    intro out i r h
    simp only [spec_l2Cut.l0] at h
    split at h
    · obtain ⟨_, h⟩ := ite1 h
      split at h
      · obtain ⟨_, h⟩ := ite1 h; exact ih _ _ h
      · exact ih _ _ h
    · injection h with h; subst h; rfl
theorem off1_38 {ns : List S36} {es : List S56} {a b : Int} {on_ : List S36} : ∀ (k : Nat) (out : List S56) (i : Int) {r}, spec_l2Off.l1 k i ns es a b on_ out = some r → r.1 = on_ := by
  intro k
  induction k with
  | zero => intro out i r h; cases h
  | succ k ih =>
    intro out i r h
    simp only [spec_l2Off.l1] at h
    split at h
    · obtain ⟨_, h⟩ := ite1 h
      split at h
      · split at h
        · obtain ⟨_, h⟩ := ite1 h; exact ih _ _ h
        · exact ih _ _ h
      · exact ih _ _ h
    · injection h with h; subst h; rfl
theorem off0_38 {ns : List S36} {es : List S56} {a b : Int} (hn : N38 ns) : ∀ (k : Nat) (on_ : List S36) (i : Int) {r}, N38 on_ → spec_l2Off.l0 k i ns es a b on_ [] = some r → N38 r.1 := by
  intro k
  induction k with
  | zero => intro on_ i r _ h; cases h
  | succ k ih =>
    intro on_ i r ho h
    simp only [spec_l2Off.l0] at h
    split at h
    · obtain ⟨_, h⟩ := ite1 h
      split at h
      · obtain ⟨_, h⟩ := ite1 h
        refine ih _ _ (fun x hx => ?_) h
        simp only [List.mem_append, List.mem_singleton] at hx
        rcases hx with hx | hx
        · exact ho x hx
        · subst hx; exact N38_rd hn _
      · exact ih _ _ ho h
    · rw [off1_38 _ _ _ h]; exact ho
theorem do_38 {k : Nat} {ns : List S36} {es : List S56} {a0 a1 a2 a3 a4 a5 a6 a7 : Int} {r} (h : spec_l2Do.f k ns es a0 a1 a2 a3 a4 a5 a6 a7 = some r) (hn : N38 ns) (h2 : a2 ≠ 38) : N38 r.1 := by
  unfold spec_l2Do.f at h
  obtain ⟨s, _, h⟩ := bnd h
  split at h
  · injection h with h; subst h; exact hn
  obtain ⟨t, _, h⟩ := bnd h
  split at h
  · split at h
    · obtain ⟨c, hc, h⟩ := bnd h
      obtain ⟨u, hu, h⟩ := bnd h
      injection h with h; subst h
      have := copy_38 hc; subst this
      exact putN_38 hn h2 _ _ hu
    split at h
    · obtain ⟨c, hc, h⟩ := bnd h
      obtain ⟨u, hu, h⟩ := bnd h
      injection h with h; subst h
      have := copy_38 hc; subst this
      have e : u.1 = ns := putE_38 _ _ hu
      show N38 u.1
      rw [e]; exact hn
    split at h
    · obtain ⟨u, hu, h⟩ := bnd h
      injection h with h; subst h
      have e : u.1 = ns := cut_38 _ _ _ hu
      show N38 u.1
      rw [e]; exact hn
    · obtain ⟨u, hu, h⟩ := bnd h
      injection h with h; subst h
      exact off0_38 hn _ _ _ (fun x hx => by cases hx) hu
  · injection h with h; subst h; exact hn
theorem graph0_38 {b : List Int} : ∀ (k : Nat) (i p : Int) (ns : List S36) (es : List S56) {r}, N38 ns → spec_l2Graph.l0 k i b p ns es = some r → N38 r.1 := by
  intro k
  induction k with
  | zero => intro i p ns es r _ h; cases h
  | succ k ih =>
    intro i p ns es r hn h
    simp only [spec_l2Graph.l0] at h
    split at h
    · obtain ⟨o, ho, h⟩ := bnd h
      obtain ⟨d, hd, h⟩ := bnd h
      exact ih _ _ _ _ (do_38 hd hn (op_38 ho hn)) h
    · obtain ⟨c, hc, h⟩ := bnd h
      injection h with h; subst h
      have := copy_38 hc; subst this
      exact hn
theorem graph_38 {k : Nat} {b : List Int} {p : Int} {r} (h : spec_l2Graph.f k b p = some r) : N38 r.1 := by
  unfold spec_l2Graph.f at h
  obtain ⟨s, _, h⟩ := bnd h
  exact graph0_38 _ _ _ _ _ (fun x hx => by cases hx) h
theorem bent0_38 {b : List Int} : ∀ (k : Nat) (i p : Int) (ns : List S36) (es : List S56) {r}, N38 ns → spec_l2Bent.l0 k i b p ns es = some r → N38 r.1 := by
  intro k
  induction k with
  | zero => intro i p ns es r _ h; cases h
  | succ k ih =>
    intro i p ns es r hn h
    simp only [spec_l2Bent.l0] at h
    split at h
    · obtain ⟨o, ho, h⟩ := bnd h
      exact ih _ _ _ _ (putN_38 hn (by omega) _ _ ho) h
    · injection h with h; subst h; exact hn
theorem bent_38 {k : Nat} {b : List Int} {p : Int} {ns : List S36} {es : List S56} {r} (h : spec_l2Bent.f k b p ns es = some r) (hn : N38 ns) : N38 r.1 := by
  unfold spec_l2Bent.f at h
  obtain ⟨c, hc, h⟩ := bnd h
  have := copy_38 hc; subst this
  obtain ⟨s, _, h⟩ := bnd h
  split at h
  · split at h
    · obtain ⟨t, ht, h⟩ := bnd h
      obtain ⟨u, hu, h⟩ := bnd h
      have m := num_mem (v := u.1) (q := u.2) hu
      obtain ⟨_, h⟩ := ite1 h
      obtain ⟨_, h⟩ := ite1 h
      injection h with h; subst h
      intro x hx
      rcases List.mem_or_eq_of_mem_set hx with hx | hx
      · exact hn x hx
      · subst hx
        show u.1 ≠ 38
        simp at m; omega
    · injection h with h; subst h; exact hn
  split at h
  · split at h
    · obtain ⟨_, h⟩ := ite1 h
      injection h with h; subst h
      intro x hx
      simp only [List.mem_append, List.mem_singleton] at hx
      rcases hx with hx | hx
      · exact hn x hx
      · subst hx; exact N38_rd hn _
    · injection h with h; subst h; exact hn
  split at h
  · split at h
    · obtain ⟨_, h⟩ := ite1 h
      injection h with h; subst h
      intro x hx
      exact hn x (List.mem_of_mem_drop hx)
    · injection h with h; subst h; exact hn
  split at h
  · split at h
    · obtain ⟨t, ht, h⟩ := bnd h
      obtain ⟨u, hu, h⟩ := bnd h
      obtain ⟨_, h⟩ := ite1 h
      obtain ⟨_, h⟩ := ite1 h
      injection h with h; subst h; exact hn
    · injection h with h; subst h; exact hn
  split at h
  · split at h
    · obtain ⟨_, h⟩ := ite1 h
      injection h with h; subst h; exact hn
    · injection h with h; subst h; exact hn
  split at h
  · exact bent0_38 _ _ _ _ _ hn h
  · injection h with h; subst h; exact hn

/-- A loop over the places from i on that stops at the first place where p does not hold. -/
theorem loop_all {l : Nat → Int → Option Bool} {p : Int → Bool} {n : Int} (h : ∀ k i, 0 ≤ i → i ≤ n → l (k + 1) i = if i < n then (if p i = true then l k (i + 1) else some false) else some true) :
    ∀ (d k : Nat) (i : Int), 0 ≤ i → i + d = n → d < k → l k i = some ((List.range d).all fun j => p (i + j)) := by
  intro d
  induction d with
  | zero =>
    intro k i h0 hd hk
    obtain ⟨k, rfl⟩ : ∃ m, k = m + 1 := ⟨k - 1, by omega⟩
    rw [h k i h0 (by omega), if_neg (by omega)]; rfl
  | succ d ih =>
    intro k i h0 hd hk
    obtain ⟨k, rfl⟩ : ∃ m, k = m + 1 := ⟨k - 1, by omega⟩
    rw [h k i h0 (by omega), if_pos (by omega), List.range_succ_eq_map, List.all_cons, List.all_map]
    by_cases hp : p i = true
    · rw [if_pos hp, ih k (i + 1) (by omega) (by omega) (by omega)]
      have e : ∀ j : Nat, i + 1 + (j : Int) = i + ((j + 1 : Nat) : Int) := fun j => by omega
      simp [hp, Function.comp_def, e]
    · rw [if_neg hp]; simp at hp; simp [hp]
/-- A loop that lays f of each place, from i on, into a row as long. -/
theorem loop_set {α : Type} {l : Nat → List α → Int → Option (List α)} {f : Int → α} {n : Nat} (h : ∀ (k : Nat) (xs : List α) (i : Int), xs.length = n → 0 ≤ i → i ≤ n → l (k + 1) xs i = if i < n then l k (xs.set i.toNat (f i)) (i + 1) else some xs) :
    ∀ (d k : Nat) (xs : List α) (i : Nat), xs.length = n → i + d = n → d < k → l k xs i = some (xs.take i ++ (List.range d).map fun j => f ((i + j : Nat) : Int)) := by
  intro d
  induction d with
  | zero =>
    intro k xs i hl hd hk
    obtain ⟨k, rfl⟩ : ∃ m, k = m + 1 := ⟨k - 1, by omega⟩
    rw [h k xs i hl (by omega) (by omega), if_neg (by omega)]
    simp [List.take_of_length_le (show xs.length ≤ i by omega)]
  | succ d ih =>
    intro k xs i hl hd hk
    obtain ⟨k, rfl⟩ : ∃ m, k = m + 1 := ⟨k - 1, by omega⟩
    rw [h k xs i hl (by omega) (by omega), if_pos (by omega)]
    have e := ih k (xs.set (i : Int).toNat (f i)) (i + 1) (by simpa using hl) (by omega) (by omega)
    rw [show ((i + 1 : Nat) : Int) = (i : Int) + 1 by omega] at e
    rw [e, List.range_succ_eq_map, List.map_cons, List.map_map]
    congr 1
    rw [Int.toNat_natCast]
    have hi : i < xs.length := by omega
    rw [List.take_succ_eq_append_getElem (by simpa using hi), List.getElem_set_self, List.take_set_of_le (by omega)]
    simp [Function.comp_def, Nat.add_assoc, Nat.add_comm 1]
theorem loop_set0 {α : Type} {l : Nat → List α → Int → Option (List α)} {f : Int → α} {n : Nat} (h : ∀ (k : Nat) (xs : List α) (i : Int), xs.length = n → 0 ≤ i → i ≤ n → l (k + 1) xs i = if i < n then l k (xs.set i.toNat (f i)) (i + 1) else some xs)
    (k : Nat) (hk : n < k) (xs : List α) (hl : xs.length = n) : l k xs 0 = some ((List.range n).map fun j : Nat => f (j : Int)) := by
  have e := loop_set h n k xs 0 hl (by omega) hk
  simpa using e

theorem loop_then {l : Nat → Int → Option Bool} {p : Int → Bool} {n : Int} {rest : Nat → Option Bool} {K : Nat} {b : Bool} (hr : ∀ k, K ≤ k → rest k = some b)
    (h : ∀ (k : Nat) (i : Int), 0 ≤ i → i ≤ n → l (k + 1) i = if i < n then (if p i = true then l k (i + 1) else some false) else rest k) :
    ∀ (d k : Nat) (i : Int), 0 ≤ i → i + d = n → d + K < k → l k i = some (((List.range d).all fun j => p (i + j)) && b) := by
  intro d
  induction d with
  | zero =>
    intro k i h0 hd hk
    obtain ⟨k, rfl⟩ : ∃ m, k = m + 1 := ⟨k - 1, by omega⟩
    rw [h k i h0 (by omega), if_neg (by omega), hr k (by omega)]; rfl
  | succ d ih =>
    intro k i h0 hd hk
    obtain ⟨k, rfl⟩ : ∃ m, k = m + 1 := ⟨k - 1, by omega⟩
    rw [h k i h0 (by omega), if_pos (by omega), List.range_succ_eq_map, List.all_cons, List.all_map]
    by_cases hp : p i = true
    · rw [if_pos hp, ih k (i + 1) (by omega) (by omega) (by omega)]
      have e : ∀ j : Nat, i + 1 + (j : Int) = i + ((j + 1 : Nat) : Int) := fun j => by omega
      simp [hp, Function.comp_def, e]
    · rw [if_neg hp]; simp at hp; simp [hp]

def EN (a b : S36) : Bool := a.f0 == b.f0 && (a.f1 == b.f1)
def EE (a b : S56) : Bool := a.f0 == b.f0 && ((a.f1.f0 == b.f1.f0 && (a.f1.f1 == b.f1.f1)) && (a.f2.f0 == b.f2.f0 && (a.f2.f1 == b.f2.f1)))
theorem EN_self (a : S36) : EN a a = true := by simp [EN]
theorem EE_self (a : S56) : EE a a = true := by simp [EE]
def Ns (xs ys : List S36) : Bool := (List.range xs.length).all fun j => EN (rd_T36 xs (0 + (j : Int))) (rd_T36 ys (0 + (j : Int)))
def Ed (xs ys : List S56) : Bool := (List.range xs.length).all fun j => EE (rd_T56 xs (0 + (j : Int))) (rd_T56 ys (0 + (j : Int)))
theorem Ns_self (xs : List S36) : Ns xs xs = true := by unfold Ns; rw [List.all_eq_true]; intro j _; exact EN_self _
theorem Ed_self (xs : List S56) : Ed xs xs = true := by unfold Ed; rw [List.all_eq_true]; intro j _; exact EE_self _
theorem nEN (a b : S36) : ((!(a.f0 == b.f0) || (!(a.f1 == b.f1))) = true) ↔ ¬ EN a b = true := by
  unfold EN; cases (a.f0 == b.f0) <;> cases (a.f1 == b.f1) <;> simp
theorem nEE (a b : S56) : ((!(a.f0 == b.f0) || ((!(a.f1.f0 == b.f1.f0) || (!(a.f1.f1 == b.f1.f1))) || ((!(a.f2.f0 == b.f2.f0) || (!(a.f2.f1 == b.f2.f1)))))) = true) ↔ ¬ EE a b = true := by
  unfold EE; cases (a.f0 == b.f0) <;> cases (a.f1.f0 == b.f1.f0) <;> cases (a.f1.f1 == b.f1.f1) <;> cases (a.f2.f0 == b.f2.f0) <;> cases (a.f2.f1 == b.f2.f1) <;> simp
/-- Two graphs are one. -/
def Gs (a : List S36) (b : List S56) (c : List S36) (d : List S56) : Bool := decide (a.length = c.length) && (decide (b.length = d.length) && (Ns a c && Ed b d))

theorem iNodeS_ok (xs ys : List S36) (hm : xs.length ≤ 2097152) (k : Nat) (hk : xs.length < k) : impl_Node_90.f k xs ys = some (decide (xs.length = ys.length) && Ns xs ys) := by
  unfold impl_Node_90.f
  by_cases hl : xs.length = ys.length
  · rw [if_pos (by omega), decide_eq_true hl, Bool.true_and]
    exact loop_all (l := fun k i => impl_Node_90.l0 k xs ys xs.length i) (p := fun i => EN (rd_T36 xs i) (rd_T36 ys i)) (n := xs.length) (fun k i h0 h1 => by
      show impl_Node_90.l0 (k + 1) xs ys xs.length i = _
      simp only [impl_Node_90.l0]
      by_cases h : i < (xs.length : Int)
      · rw [if_pos h, if_pos h, if_pos h0, if_pos h, if_pos (by omega), w64 (x := i + 1) (by omega)]
        by_cases c : EN (rd_T36 xs i) (rd_T36 ys i) = true
        · rw [if_neg (fun h => (nEN _ _).1 h c), if_pos c]
        · rw [if_pos ((nEN _ _).2 c), if_neg c]
      · rw [if_neg h, if_neg h]) xs.length k 0 (by omega) (by omega) hk
  · rw [if_neg (by omega), decide_eq_false hl, Bool.false_and]
theorem iEdgeS_ok (xs ys : List S56) (hm : xs.length ≤ 2097152) (k : Nat) (hk : xs.length < k) : impl_Edge.f k xs ys = some (decide (xs.length = ys.length) && Ed xs ys) := by
  unfold impl_Edge.f
  by_cases hl : xs.length = ys.length
  · rw [if_pos (by omega), decide_eq_true hl, Bool.true_and]
    exact loop_all (l := fun k i => impl_Edge.l0 k xs ys xs.length i) (p := fun i => EE (rd_T56 xs i) (rd_T56 ys i)) (n := xs.length) (fun k i h0 h1 => by
      show impl_Edge.l0 (k + 1) xs ys xs.length i = _
      simp only [impl_Edge.l0]
      by_cases h : i < (xs.length : Int)
      · rw [if_pos h, if_pos h, if_pos h0, if_pos h, if_pos (by omega), w64 (x := i + 1) (by omega)]
        by_cases c : EE (rd_T56 xs i) (rd_T56 ys i) = true
        · rw [if_neg (fun h => (nEE _ _).1 h c), if_pos c]
        · rw [if_pos ((nEE _ _).2 c), if_neg c]
      · rw [if_neg h, if_neg h]) xs.length k 0 (by omega) (by omega) hk
  · rw [if_neg (by omega), decide_eq_false hl, Bool.false_and]
theorem iGraphSame_ok (a : List S36) (b : List S56) (c : List S36) (d : List S56) (ha : a.length ≤ 2097152) (hb : b.length ≤ 2097152) (k : Nat) (hk : a.length + b.length < k) : impl_GraphSame.f k a b c d = some (Gs a b c d) := by
  unfold impl_GraphSame.f Gs
  rw [iNodeS_ok a c ha k (by omega)]
  simp only [Option.bind_some]
  rw [iEdgeS_ok b d hb k (by omega)]
  cases decide (a.length = c.length) <;> cases Ns a c <;> simp

theorem sGraphSame_ok (a : List S36) (b : List S56) (c : List S36) (d : List S56) (ha : a.length ≤ 2097152) (hb : b.length ≤ 2097152) (k : Nat) (hk : a.length + b.length + 4 < k) : spec_GraphSame.f k a b c d = some (Gs a b c d) := by
  obtain ⟨k, rfl⟩ : ∃ m, k = m + 1 := ⟨k - 1, by omega⟩
  unfold spec_GraphSame.f Gs
  by_cases hl : a.length = c.length
  · rw [if_pos (by omega), decide_eq_true hl, Bool.true_and]
    by_cases hm : b.length = d.length
    · rw [show ((b.length : Int) != (d.length : Int)) = false by simp [hm], decide_eq_true hm, Bool.true_and]
      simp only [spec_GraphSame.j0, Bool.false_eq_true, if_false]
      refine loop_then (l := fun k i => spec_GraphSame.l0 k i a b c d) (p := fun i => EN (rd_T36 a i) (rd_T36 c i)) (n := a.length) (K := b.length + 1) (b := Ed b d) (rest := fun k => spec_GraphSame.l1 k 0 a b c d) (fun k hk => ?_) (fun k i h0 h1 => ?_) a.length k 0 (by omega) (by omega) (by omega)
      · exact loop_all (l := fun k i => spec_GraphSame.l1 k i a b c d) (p := fun i => EE (rd_T56 b i) (rd_T56 d i)) (n := b.length) (fun k i h0 h1 => by
          show spec_GraphSame.l1 (k + 1) i a b c d = _
          simp only [spec_GraphSame.l1]
          by_cases h : i < (b.length : Int)
          · rw [if_pos h, if_pos h, if_pos h0, if_pos (by omega), w64 (x := i + 1) (by omega)]
            by_cases c : EE (rd_T56 b i) (rd_T56 d i) = true
            · rw [if_neg (fun h => (nEE _ _).1 h c), if_pos c]
            · rw [if_pos ((nEE _ _).2 c), if_neg c]
          · rw [if_neg h, if_neg h]) b.length k 0 (by omega) (by omega) (by omega)
      · show spec_GraphSame.l0 (k + 1) i a b c d = _
        simp only [spec_GraphSame.l0]
        by_cases h : i < (a.length : Int)
        · rw [if_pos h, if_pos h, if_pos h0, if_pos (by omega), w64 (x := i + 1) (by omega)]
          by_cases e : EN (rd_T36 a i) (rd_T36 c i) = true
          · rw [if_neg (fun h => (nEN _ _).1 h e), if_pos e]
          · rw [if_pos ((nEN _ _).2 e), if_neg e]
        · rw [if_neg h, if_neg h]
    · rw [show ((b.length : Int) != (d.length : Int)) = true by simp; omega, decide_eq_false hm, Bool.false_and]
      simp [spec_GraphSame.j0]
  · rw [if_neg (by omega), decide_eq_false hl, Bool.false_and]
    simp [spec_GraphSame.j0]

theorem EN_com (a b : S36) : EN a b = EN b a := by unfold EN; rw [Bool.beq_comm (a := a.f0), Bool.beq_comm (a := a.f1)]
theorem EE_com (a b : S56) : EE a b = EE b a := by
  unfold EE
  rw [Bool.beq_comm (a := a.f0), Bool.beq_comm (a := a.f1.f0), Bool.beq_comm (a := a.f1.f1), Bool.beq_comm (a := a.f2.f0), Bool.beq_comm (a := a.f2.f1)]
theorem Gs_com (a : List S36) (b : List S56) (c : List S36) (d : List S56) : Gs a b c d = Gs c d a b := by
  unfold Gs
  by_cases h1 : a.length = c.length
  · by_cases h2 : b.length = d.length
    · rw [decide_eq_true h1, decide_eq_true h2, decide_eq_true h1.symm, decide_eq_true h2.symm]
      unfold Ns Ed
      rw [h1, h2]
      simp only [EN_com (rd_T36 a _), EE_com (rd_T56 b _)]
    · rw [decide_eq_false h2, decide_eq_false (p := d.length = b.length) (fun e => h2 e.symm)]; simp
  · rw [decide_eq_false h1, decide_eq_false (p := c.length = a.length) (fun e => h1 e.symm)]; simp
theorem Gs_self (a : List S36) (b : List S56) : Gs a b a b = true := by simp [Gs, Ns_self, Ed_self]
theorem op_same (k : Nat) (hk : 2 ≤ k) (t a b l c d e f : Int) : ∃ r, spec_OpLabel.f k t a b l c d e f = some r ∧ impl_OpLabel.f k t a b l c d e f = some r := by
  obtain ⟨r, hr⟩ := opLabel_tot k hk t a b l c d e f
  refine ⟨r, hr, ?_⟩
  rw [← hr]
  obtain ⟨k, rfl⟩ : ∃ m, k = m + 2 := ⟨k - 2, by omega⟩
  unfold spec_OpLabel.f impl_OpLabel.f
  simp only [spec_OpLabel.j0, spec_OpLabel.j1, impl_OpLabel.j0, impl_OpLabel.j1, sN, iN, spec_EdgeOk.f, impl_EdgeOk.f]
theorem same_drawn (l : List Int) (hl : ∀ x ∈ l, 0 ≤ x ∧ x ≤ 255) (k : Nat) (hk : 400 < k) : ∃ a b c d, spec_DrawGraphSame.f k l = some (a, b, c, d) ∧ a.length ≤ 106 ∧ b.length ≤ 101 ∧ c.length ≤ 130 ∧ d.length ≤ 110 := by
  obtain ⟨b, h0, hb⟩ := open_ok l hl
  obtain ⟨n1, e1, q1, h1, l1, m1, r1, s1⟩ := graph_ok b hb k hk 0 (by omega) (by omega)
  obtain ⟨n2, e2, q2, h2, l2, m2, r2, s2⟩ := bent_ok b hb k hk q1 r1 (by omega) n1 e1 (by omega) (by omega)
  obtain ⟨n3, e3, q3, h3, l3, m3, r3, s3⟩ := bent_ok b hb k hk q2 r2 (by omega) n2 e2 (by omega) (by omega)
  obtain ⟨n4, e4, q4, h4, l4, m4, r4, s4⟩ := bent_ok b hb k hk q3 r3 (by omega) n3 e3 (by omega) (by omega)
  obtain ⟨n5, e5, q5, h5, l5, m5, r5, s5⟩ := bent_ok b hb k hk q4 r4 (by omega) n4 e4 (by omega) (by omega)
  exact ⟨n1, e1, n5, e5, by unfold spec_DrawGraphSame.f; simp only [h0, h1, h2, h3, h4, h5, Option.bind_some], by omega, by omega, by omega, by omega⟩
theorem ok_drawn (l : List Int) (hl : ∀ x ∈ l, 0 ≤ x ∧ x ≤ 255) (k : Nat) (hk : 400 < k) : ∃ ns es, spec_DrawGraphOk.f k l = some (ns, es) ∧ ns.length ≤ 112 ∧ es.length ≤ 102 ∧ N38 ns := by
  obtain ⟨b, h0, hb⟩ := open_ok l hl
  obtain ⟨n1, e1, q1, h1, l1, m1, r1, s1⟩ := graph_ok b hb k hk 0 (by omega) (by omega)
  obtain ⟨n2, e2, q2, h2, l2, m2, r2, s2⟩ := bent_ok b hb k hk q1 r1 (by omega) n1 e1 (by omega) (by omega)
  obtain ⟨n3, e3, q3, h3, l3, m3, r3, s3⟩ := bent_ok b hb k hk q2 r2 (by omega) n2 e2 (by omega) (by omega)
  exact ⟨n3, e3, by unfold spec_DrawGraphOk.f; simp only [h0, h1, h2, h3, Option.bind_some], by omega, by omega, bent_38 h3 (bent_38 h2 (graph_38 h1))⟩
theorem op_drawn (l : List Int) (hl : ∀ x ∈ l, 0 ≤ x ∧ x ≤ 255) (k : Nat) (hk : 400 < k) : ∃ r, spec_DrawOpLabel.f k l = some r := by
  obtain ⟨b, h0, hb⟩ := open_ok l hl
  obtain ⟨a0, a1, a2, a3, a4, a5, a6, a7, q, h, _, _⟩ := op_ok k (by omega) b 0 hb (by omega) (by omega) [] []
  exact ⟨_, by unfold spec_DrawOpLabel.f; simp only [h0, h, Option.bind_some]; rfl⟩
theorem twice {ns : List S36} {es : List S56} (hn : ns ≠ []) : GOk (ns ++ ns) es = false := by
  cases ns with
  | nil => exact absurd rfl hn
  | cons x t =>
    rw [Bool.eq_false_iff]
    intro h
    simp only [GOk, Bool.and_eq_true, List.cons_append, Asc, decide_eq_true_eq] at h
    have := (Asc_ok (t ++ x :: t) (Cd x.f0 x.f1) (by omega) h.1.2 x (by simp)).2
    omega
theorem eight {ns : List S36} {es : List S56} : GOk (ns ++ [(⟨8, 0⟩ : S36)]) es = false := by
  rw [Bool.eq_false_iff]
  intro h
  simp only [GOk, Bool.and_eq_true] at h
  have := (Asc_ok _ (-1) (by omega) h.1 ⟨8, 0⟩ (by simp)).1
  revert this; decide
theorem EAsc_end (ns : List S36) (e : S56) : ∀ (es : List S56) (p : Option S56), EAsc ns (es ++ [e]) p = true → In ns e.f1.f0 e.f1.f1 = true
  | [], p, h => by simp only [List.nil_append, EAsc, Bool.and_eq_true] at h; exact h.2.2.1
  | x :: es, p, h => by simp only [List.cons_append, EAsc, Bool.and_eq_true] at h; exact EAsc_end ns e es _ h.2.2.2.2
theorem bent_y {ns : List S36} {es : List S56} (hn : N38 ns) (c : Int) (y : S36) : GOk ns (es ++ [(⟨c, (⟨7, 38⟩ : S36), y⟩ : S56)]) = false := by
  rw [Bool.eq_false_iff]
  intro h
  simp only [GOk, Bool.and_eq_true] at h
  have i := EAsc_end ns _ es none h.2.1
  unfold In at i
  rw [List.any_eq_true] at i
  obtain ⟨x, hx, e⟩ := i
  simp at e
  exact hn x hx e.2
theorem tail_ok (ns : List S36) (es : List S56) (hn : ns.length ≤ 112) (hm : es.length ≤ 102) (h38 : N38 ns) : laws_FnGraphBent.j0 2000 false ns es = some true := by
  have S := sGraphOk_ok ns es (show ns.length ≤ 2097152 by omega) (show es.length ≤ 2097152 by omega) 1999 (by omega)
  have ey : ∀ e : S56, (es ++ [e]).length = es.length + 1 := fun e => by simp
  have en : ∀ e : S36, (ns ++ [e]).length = ns.length + 1 := fun e => by simp
  have e2 : (ns ++ ns).length = ns.length + ns.length := by simp
  simp only [laws_FnGraphBent.j0, Bool.false_eq_true, if_false, Option.bind_some, List.nil_append, List.length_nil, Nat.zero_add, S]
  by_cases hG : GOk ns es = true
  · rw [if_pos hG, if_pos (by omega), if_pos (by omega), if_pos (by omega), if_pos (by omega), if_pos (by omega)]
    rw [iGraphOk_ok ns (es ++ _) (by omega) (by rw [ey]; omega) 1999 (by rw [ey]; omega), bent_y h38, iGraphOk_ok (ns ++ [_]) es (by rw [en]; omega) (by omega) 1999 (by rw [en]; omega), eight,
      iGraphSame_ok ns es ns (es ++ _) (by omega) (by omega) 1999 (by omega), iGraphSame_ok ns es (ns ++ [_]) es (by omega) (by omega) 1999 (by omega)]
    have g1 : ∀ e : S56, Gs ns es ns (es ++ [e]) = false := fun e => by unfold Gs; rw [ey, decide_eq_false (show ¬ es.length = es.length + 1 by omega)]; simp
    have g2 : ∀ e : S36, Gs ns es (ns ++ [e]) es = false := fun e => by unfold Gs; rw [en, decide_eq_false (show ¬ ns.length = ns.length + 1 by omega)]; simp
    simp only [g1, g2, Option.bind_some, Bool.false_eq_true, if_false, Bool.not_false]
    by_cases h0 : (ns.length : Int) = 0
    · rw [if_pos h0, if_pos (by omega)]
    · rw [if_neg h0, iGraphOk_ok (ns ++ ns) es (by omega) (by omega) 1999 (by omega), twice (fun e => h0 (by rw [e]; rfl))]
      simp
      omega
  · rw [if_neg hG]
theorem FnGraphBent : laws_FnGraphBent.Pure := by
  intro l _ hl
  refine ⟨2000, ?_⟩
  unfold laws_FnGraphBent.f
  by_cases c : (l.length : Int) > 1048576
  · rw [if_pos c]
  rw [if_neg c]
  obtain ⟨n1, e1, n2, e2, h1, a1, a2, a3, a4⟩ := same_drawn l (u8B hl) 2000 (by omega)
  obtain ⟨ns, es, h2, b1, b2, h38⟩ := ok_drawn l (u8B hl) 2000 (by omega)
  obtain ⟨⟨o0, o1, o2, o3, o4, o5, o6, o7⟩, h3⟩ := op_drawn l (u8B hl) 2000 (by omega)
  obtain ⟨r, p1, p2⟩ := op_same 2000 (by omega) o0 o1 o2 o3 o4 o5 o6 o7
  simp only [h1, h2, h3, p1, p2, Option.bind_some]
  rw [iGraphSame_ok n1 e1 n2 e2 (by omega) (by omega) 2000 (by omega), sGraphSame_ok n1 e1 n2 e2 (by omega) (by omega) 2000 (by omega), iGraphSame_ok n2 e2 n1 e1 (by omega) (by omega) 2000 (by omega), iGraphSame_ok ns es ns es (by omega) (by omega) 2000 (by omega),
    iGraphOk_ok ns es (by omega) (by omega) 2000 (by omega), sGraphOk_ok ns es (by omega) (by omega) 2000 (by omega), iGraphOk_ok [] [] (by simp) (by simp) 2000 (by simp), Gs_com n2 e2 n1 e1, Gs_self]
  simp only [Option.bind_some, bne_self_eq_false, Bool.false_eq_true, if_false, if_true]
  rw [show GOk [] [] = true by decide]
  exact tail_ok ns es b1 b2 h38

end Go.Proofs.Ytohmemckdogljaa.Pure
