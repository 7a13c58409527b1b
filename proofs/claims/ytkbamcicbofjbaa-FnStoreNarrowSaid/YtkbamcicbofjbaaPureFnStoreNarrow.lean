/- The plain law behind FnStoreNarrow: at whatever stores and labels are drawn, what is seen of what is seen of a store is what is seen with the letters that both have. -/
import Derived.Test.YtkbamcicbofjbaaQFnStoreNarrowOpen
namespace Go.Proofs.Ytkbamcicbofjbaa.Pure
open Go.RowKit Go.Proofs.Ytkbamcicbofjbaa.QFnStoreNarrow Go.Proofs.YtkbamcicbofjbaaW.PrintWords Go.Proofs.YtkbamcicbofjbaaW.PrintLast
set_option linter.unusedSimpArgs false
set_option linter.unusedVariables false

open Go.Proofs.Ytkbamcicbofjbaa.Bl
theorem w64 {x : Int} (h : -9223372036854775808 ≤ x ∧ x ≤ 9223372036854775807) : wrap64 x = x := by unfold wrap64; omega
theorem rdB {b : List Int} (hb : ∀ x ∈ b, 0 ≤ x ∧ x ≤ 255) (i : Int) : 0 ≤ rd b i ∧ rd b i ≤ 255 := by
  unfold rd
  rw [List.getD_eq_getElem?_getD]
  cases h : b[i.toNat]? with
  | none => simp
  | some v => exact hb v (List.mem_of_getElem? h)
theorem u8B {l : List Int} (h : ∀ x ∈ l, (Lit.int .u8 x).wf = true) : ∀ x ∈ l, 0 ≤ x ∧ x ≤ 255 := fun x hx => by
  have := h x hx
  simp [Lit.wf, IntKind.min, IntKind.max, IntKind.signed, IntKind.bits] at this
  omega

theorem xor_nn {x y : Int} (hx : 0 ≤ x) (hx1 : x < 4611686018427387904) (hy : 0 ≤ y) (hy1 : y < 4611686018427387904) : 0 ≤ Go.bits .xor .i64 x y := by
  obtain ⟨a, rfl⟩ := Int.eq_ofNat_of_zero_le hx
  obtain ⟨b, rfl⟩ := Int.eq_ofNat_of_zero_le hy
  have ha : a < 2 ^ 62 := by omega
  have hb : b < 2 ^ 62 := by omega
  have hab : a ^^^ b < 2 ^ 62 := Nat.xor_lt_two_pow ha hb
  have ea : a % 2 ^ IntKind.i64.bits = a := Nat.mod_eq_of_lt (by simp [IntKind.bits]; omega)
  have eb : b % 2 ^ IntKind.i64.bits = b := Nat.mod_eq_of_lt (by simp [IntKind.bits]; omega)
  simp only [Go.bits, BitVec.ofInt_natCast, BitVec.toNat_xor, BitVec.toNat_ofNat, ea, eb]
  rw [IntKind.wrap_i64]
  omega

theorem pick_ok (k : Nat) (hk : 1 ≤ k) (b : List Int) (p n : Int) (hb : ∀ x ∈ b, 0 ≤ x ∧ x ≤ 255) (hp0 : 0 ≤ p) (hp : p ≤ 1000000) (hn : 1 ≤ n) :
    ∃ v, spec_l9Rd_pick.f k b p n = some (v, p + 1) ∧ 0 ≤ v ∧ v < n := by
  obtain ⟨k, rfl⟩ : ∃ m, k = m + 1 := ⟨k - 1, by omega⟩
  have w1 : wrap64 (p + 1) = p + 1 := w64 (by omega)
  have w2 : wrap64 (p + 1 - 1) = p := by rw [Int.add_sub_cancel]; exact w64 (by omega)
  unfold spec_l9Rd_pick.f
  rw [if_neg (by omega), w1]
  by_cases he : (b.length : Int) = 0
  · rw [show ((b.length : Int) == 0) = true by simpa using he]
    exact ⟨0, by simp [spec_l9Rd_pick.j0], by omega, by omega⟩
  · rw [show ((b.length : Int) == 0) = false by simpa using he]
    simp only [spec_l9Rd_pick.j0, w2]
    rw [if_neg (by decide)]
    by_cases h1 : p < (b.length : Int)
    · rw [if_pos h1, if_pos hp0, if_neg (by omega), w64 (x := rd b p) (by have := rdB hb p; omega)]
      exact ⟨_, rfl, Int.tmod_nonneg _ (rdB hb p).1, Int.tmod_lt_of_pos _ (by omega)⟩
    · have hl : (0 : Int) < b.length := by omega
      rw [if_neg h1, if_neg he]
      have m0 : 0 ≤ Int.tmod p b.length := Int.tmod_nonneg _ hp0
      have m1 : Int.tmod p b.length < b.length := Int.tmod_lt_of_pos _ hl
      have w3 : wrap64 (wrap64 (p * 7) + 3) = p * 7 + 3 := by rw [w64 (x := p * 7) (by omega)]; exact w64 (by omega)
      have m2 : 0 ≤ Int.tmod (p * 7 + 3) b.length := Int.tmod_nonneg _ (by omega)
      have m3 : Int.tmod (p * 7 + 3) b.length < b.length := Int.tmod_lt_of_pos _ hl
      rw [if_pos m0, if_pos m1, w3, if_pos m2, if_pos m3, if_neg (by omega)]
      have r1 := rdB hb (Int.tmod p b.length)
      have r2 := rdB hb (Int.tmod (p * 7 + 3) b.length)
      have d0 : 0 ≤ Int.tdiv p b.length := Int.tdiv_nonneg hp0 (by omega)
      have d1 : Int.tdiv p b.length ≤ p := Int.tdiv_le_self _ hp0
      generalize rd b (Int.tmod p b.length) = R1 at *
      generalize rd b (Int.tmod (p * 7 + 3) b.length) = R2 at *
      generalize Int.tdiv p b.length = D at *
      rw [w64 (x := R1) (by omega), w64 (x := R2) (by omega), w64 (x := D) (by omega), w64 (x := R1 * 131) (by omega), w64 (x := R2 * 1117) (by omega), w64 (x := p * 29) (by omega), w64 (x := D * 53) (by omega), w64 (x := R1 * 131 + R2 * 1117) (by omega),
        w64 (x := R1 * 131 + R2 * 1117 + p * 29) (by omega), w64 (x := R1 * 131 + R2 * 1117 + p * 29 + D * 53) (by omega)]
      have x0 : 0 ≤ R1 * 131 + R2 * 1117 + p * 29 + D * 53 := by omega
      have x1 : R1 * 131 + R2 * 1117 + p * 29 + D * 53 < 4611686018427387904 := by omega
      generalize R1 * 131 + R2 * 1117 + p * 29 + D * 53 = X at *
      have y0 : 0 ≤ Int.tdiv X 64 := Int.tdiv_nonneg x0 (by decide)
      have y1 : Int.tdiv X 64 ≤ X := Int.tdiv_le_self _ x0
      rw [w64 (x := Int.tdiv X 64) (by omega)]
      exact ⟨_, rfl, Int.tmod_nonneg _ (xor_nn x0 x1 y0 (by omega)), Int.tmod_lt_of_pos _ (by omega)⟩
theorem open_ok (l : List Int) (hl : ∀ x ∈ l, 0 ≤ x ∧ x ≤ 255) : ∃ b, spec_l9Open.f l = some (b, 0) ∧ ∀ x ∈ b, 0 ≤ x ∧ x ≤ 255 := by
  unfold spec_l9Open.f
  by_cases h : (l.length : Int) > 2000
  · rw [if_pos h, if_pos (by omega)]
    exact ⟨_, rfl, fun x hx => hl x (List.mem_of_mem_take hx)⟩
  · rw [if_neg h]; exact ⟨_, rfl, hl⟩

theorem num_ok (k : Nat) (hk : 1 ≤ k) (b : List Int) (p : Int) (l : List Int) (hb : ∀ x ∈ b, 0 ≤ x ∧ x ≤ 255) (hp0 : 0 ≤ p) (hp : p ≤ 1000000) (hn : 1 ≤ l.length) :
    ∃ v, spec_l9Rd_num.f k b p l = some (v, p + 1) ∧ v ∈ l := by
  obtain ⟨v, hv, v0, v1⟩ := pick_ok k hk b p (l.length : Int) hb hp0 hp (by omega)
  unfold spec_l9Rd_num.f
  rw [hv]
  simp only [Option.bind_some]
  rw [if_pos v0, if_pos v1]
  refine ⟨_, rfl, ?_⟩
  unfold rd
  rw [List.getD_eq_getElem?_getD, List.getElem?_eq_getElem (by omega)]
  exact List.getElem_mem _

theorem rdT_at {xs : List S55} {i : Nat} (h : i < xs.length) : rd_T55 xs (i : Int) = xs[i] := by
  unfold rd_T55; rw [Int.toNat_natCast, List.getD_eq_getElem?_getD, List.getElem?_eq_getElem h]; rfl
theorem rdE_at {xs : List S57} {i : Nat} (h : i < xs.length) : rd_T57 xs (i : Int) = xs[i] := by
  unfold rd_T57; rw [Int.toNat_natCast, List.getD_eq_getElem?_getD, List.getElem?_eq_getElem h]; rfl
theorem at_ok (ns : List S55) (es : List S57) (hm : ns.length ≤ 2097152) (a b : Int) (k : Nat) (hk : ns.length < k) : ∃ r, spec_l2At.f k ns es a b = some r ∧ True := by
  have key : ∀ (d k i : Nat), i + d = ns.length → d < k → ∃ r, spec_l2At.l0 k (i : Int) ns es a b = some r ∧ True := by
    intro d
    induction d with
    | zero =>
      intro k i hd hk
      obtain ⟨k, rfl⟩ : ∃ m, k = m + 1 := ⟨k - 1, by omega⟩
      rw [spec_l2At.l0]; rw [if_neg (by omega)]; exact ⟨_, rfl, trivial⟩
    | succ d ih =>
      intro k i hd hk
      obtain ⟨k, rfl⟩ : ∃ m, k = m + 1 := ⟨k - 1, by omega⟩
      rw [spec_l2At.l0]
      rw [if_pos (by omega), if_pos (by omega), w64 (x := (i : Int) + 1) (by omega), show (i : Int) + 1 = ((i + 1 : Nat) : Int) by omega]
      split
      · exact ⟨_, rfl, trivial⟩
      · exact ih k (i + 1) (by omega) (by omega)
  exact key ns.length k 0 (by omega) hk
/-- How many nodes there are of a label. -/
def cN (a : Int) (xs : List S55) : Nat := (xs.filter fun x => x.f0 == a).length
def cE (a : Int) (xs : List S57) : Nat := (xs.filter fun x => x.f0 == a).length
theorem cN_cons (a : Int) (x : S55) (xs : List S55) : cN a (x :: xs) = cN a xs + if x.f0 = a then 1 else 0 := by
  by_cases c : x.f0 = a
  · simp [cN, List.filter_cons, c]
  · simp [cN, List.filter_cons, c]
theorem cE_cons (a : Int) (x : S57) (xs : List S57) : cE a (x :: xs) = cE a xs + if x.f0 = a then 1 else 0 := by
  by_cases c : x.f0 = a
  · simp [cE, List.filter_cons, c]
  · simp [cE, List.filter_cons, c]
theorem cntN_l0 (ns : List S55) (es : List S57) (hm : ns.length ≤ 2097152) (a : Int) : ∀ (d k : Nat) (n i : Nat), i + d = ns.length → n ≤ i → d < k → spec_l2Nodes.l0 k a n i ns es = some ((n + cN a (ns.drop i) : Nat) : Int) := by
  intro d
  induction d with
  | zero =>
    intro k n i hd hn hk
    obtain ⟨k, rfl⟩ : ∃ m, k = m + 1 := ⟨k - 1, by omega⟩
    simp only [spec_l2Nodes.l0]
    rw [if_neg (by omega), List.drop_of_length_le (by omega)]; simp [cN]
  | succ d ih =>
    intro k n i hd hn hk
    obtain ⟨k, rfl⟩ : ∃ m, k = m + 1 := ⟨k - 1, by omega⟩
    have hi : i < ns.length := by omega
    simp only [spec_l2Nodes.l0]
    rw [if_pos (by omega), if_pos (by omega), rdT_at hi, List.drop_eq_getElem_cons hi, cN_cons, w64 (x := (i : Int) + 1) (by omega), w64 (x := (n : Int) + 1) (by omega), show (i : Int) + 1 = ((i + 1 : Nat) : Int) by omega, show (n : Int) + 1 = ((n + 1 : Nat) : Int) by omega]
    by_cases c : (ns[i]).f0 = a
    · rw [if_pos c, if_pos c, ih k (n + 1) (i + 1) (by omega) (by omega) (by omega)]; congr 2; omega
    · rw [if_neg c, if_neg c, ih k n (i + 1) (by omega) (by omega) (by omega)]; congr 2
theorem cntE_l0 (ns : List S55) (es : List S57) (hm : es.length ≤ 2097152) (a : Int) : ∀ (d k : Nat) (n i : Nat), i + d = es.length → n ≤ i → d < k → spec_l2Edges.l0 k a n i ns es = some ((n + cE a (es.drop i) : Nat) : Int) := by
  intro d
  induction d with
  | zero =>
    intro k n i hd hn hk
    obtain ⟨k, rfl⟩ : ∃ m, k = m + 1 := ⟨k - 1, by omega⟩
    simp only [spec_l2Edges.l0]
    rw [if_neg (by omega), List.drop_of_length_le (by omega)]; simp [cE]
  | succ d ih =>
    intro k n i hd hn hk
    obtain ⟨k, rfl⟩ : ∃ m, k = m + 1 := ⟨k - 1, by omega⟩
    have hi : i < es.length := by omega
    simp only [spec_l2Edges.l0]
    rw [if_pos (by omega), if_pos (by omega), rdE_at hi, List.drop_eq_getElem_cons hi, cE_cons, w64 (x := (i : Int) + 1) (by omega), w64 (x := (n : Int) + 1) (by omega), show (i : Int) + 1 = ((i + 1 : Nat) : Int) by omega, show (n : Int) + 1 = ((n + 1 : Nat) : Int) by omega]
    by_cases c : (es[i]).f0 = a
    · rw [if_pos c, if_pos c, ih k (n + 1) (i + 1) (by omega) (by omega) (by omega)]; congr 2; omega
    · rw [if_neg c, if_neg c, ih k n (i + 1) (by omega) (by omega) (by omega)]; congr 2

theorem two_ok (k : Nat) (hk : 5 ≤ k) (i : Int) (hi : i = 0 ∨ i = 1 ∨ i = 2) : ∃ t, spec_l1Two.f k i = some t ∧ t ≠ 0 := by
  rcases hi with rfl | rfl | rfl
  · exact ⟨1, Go.Proofs.YtkbamcicbofjbaaW.PrintWords.at_rounds (g := fun k => spec_l1Two.f k 0) (fun k => spec_l1Two.mono _ k) hk (show spec_l1Two.f 5 0 = some 1 by decide +kernel), by decide⟩
  · exact ⟨2, Go.Proofs.YtkbamcicbofjbaaW.PrintWords.at_rounds (g := fun k => spec_l1Two.f k 1) (fun k => spec_l1Two.mono _ k) hk (show spec_l1Two.f 5 1 = some 2 by decide +kernel), by decide⟩
  · exact ⟨4, Go.Proofs.YtkbamcicbofjbaaW.PrintWords.at_rounds (g := fun k => spec_l1Two.f k 2) (fun k => spec_l1Two.mono _ k) hk (show spec_l1Two.f 5 2 = some 4 by decide +kernel), by decide⟩
theorem has_tot (k : Nat) (hk : 5 ≤ k) (a i : Int) (hi : i = 0 ∨ i = 1 ∨ i = 2) : ∃ r, spec_l1Has.f k a i = some r := by
  obtain ⟨t, h, ht⟩ := two_ok k hk i hi
  unfold spec_l1Has.f
  rw [h]; simp only [Option.bind_some]; rw [if_neg ht]; exact ⟨_, rfl⟩
theorem mix_l0 (a b : Int) (c : Bool) : ∀ (d k : Nat) (x : Int), d ≤ 3 → d + 6 ≤ k → ∃ r, spec_l1Mix.l0 k a b c x ((d : Int) - 1) = some r := by
  intro d
  induction d with
  | zero =>
    intro k x _ hk
    obtain ⟨k, rfl⟩ : ∃ m, k = m + 1 := ⟨k - 1, by omega⟩
    exact ⟨x, by simp only [spec_l1Mix.l0]; rw [if_neg (by omega)]⟩
  | succ d ih =>
    intro k x hd hk
    obtain ⟨k, rfl⟩ : ∃ m, k = m + 1 := ⟨k - 1, by omega⟩
    obtain ⟨r1, h1⟩ := has_tot k (by omega) a (((d + 1 : Nat) : Int) - 1) (by omega)
    obtain ⟨r2, h2⟩ := has_tot k (by omega) b (((d + 1 : Nat) : Int) - 1) (by omega)
    simp only [spec_l1Mix.l0, h1, h2, Option.bind_some, w64 (x := ((d + 1 : Nat) : Int) - 1 - 1) (by omega)]
    rw [if_pos (by omega), show ((d + 1 : Nat) : Int) - 1 - 1 = (d : Int) - 1 by omega]
    repeat' split
    all_goals exact ih k _ (by omega) (by omega)
theorem mix_tot (k : Nat) (hk : 9 ≤ k) (a b : Int) (c : Bool) : ∃ r, spec_l1Mix.f k a b c = some r := mix_l0 a b c 3 k 0 (by omega) (by omega)
theorem less_tot (a0 a1 a2 a3 a4 b0 b1 b2 b3 b4 : Int) : ∃ r, spec_l2Less.f a0 a1 a2 a3 a4 b0 b1 b2 b3 b4 = some r := by
  unfold spec_l2Less.f spec_l2Code.f
  simp only [Option.bind_some]
  split
  · split <;> exact ⟨_, rfl⟩
  · exact ⟨_, rfl⟩
theorem node_ok (k : Nat) (hk : 1 ≤ k) (b : List Int) (p : Int) (hb : ∀ x ∈ b, 0 ≤ x ∧ x ≤ 255) (hp0 : 0 ≤ p) (hp : p ≤ 900000) : ∃ u v, spec_l2Node.f k b p = some (u, v, p + 2) := by
  obtain ⟨u, hu, _⟩ := num_ok k hk b p [0, 1, 2, 3, 0, 1, 4, 7] hb hp0 (by omega) (by decide)
  obtain ⟨v, hv, _⟩ := num_ok k hk b (p + 1) [0, 1, 2, 3, 40] hb (by omega) (by omega) (by decide)
  exact ⟨u, v, by unfold spec_l2Node.f; rw [hu]; simp only [Option.bind_some]; rw [hv]; simp; omega⟩
theorem edge_j1 (k : Nat) (hk : 10 ≤ k) (b : List Int) (p : Int) (hb : ∀ x ∈ b, 0 ≤ x ∧ x ≤ 255) (hp0 : 0 ≤ p) (hp : p ≤ 900000) (x y u v : Int) : ∃ l a c d e, spec_l2Edge.j1 k b p x y u v = some (l, a, c, d, e, p + 1) := by
  obtain ⟨k, rfl⟩ : ∃ m, k = m + 1 := ⟨k - 1, by omega⟩
  obtain ⟨m1, hm1⟩ := mix_tot k (by omega) x u false
  obtain ⟨w, hw, _⟩ := num_ok k (by omega) b p [0, 0, 0, 1, 2, 4] hb hp0 (by omega) (by decide)
  obtain ⟨m2, hm2⟩ := mix_tot k (by omega) m1 w false
  simp only [spec_l2Edge.j1, hm1, hw, hm2, spec_l2Code.f, Option.bind_some]
  split <;> exact ⟨_, _, _, _, _, rfl⟩
theorem edge_j0 (k : Nat) (hk : 11 ≤ k) (b : List Int) (p : Int) (hb : ∀ x ∈ b, 0 ≤ x ∧ x ≤ 255) (hp0 : 0 ≤ p) (hp : p ≤ 800000) (t : Bool) (ns : List S55) (es : List S57) (ht : t = true → 1 ≤ ns.length) (x y u v : Int) :
    ∃ l a c d e q, spec_l2Edge.j0 k t b p ns es x y u v = some (l, a, c, d, e, q) ∧ p ≤ q ∧ q ≤ p + 3 := by
  obtain ⟨k, rfl⟩ : ∃ m, k = m + 1 := ⟨k - 1, by omega⟩
  simp only [spec_l2Edge.j0]
  cases t with
  | true =>
    have hn := ht rfl
    obtain ⟨i, hi, i0, i1⟩ := pick_ok k (by omega) b p ns.length hb hp0 (by omega) (by omega)
    obtain ⟨j, hj, j0, j1⟩ := pick_ok k (by omega) b (p + 1) ns.length hb (by omega) (by omega) (by omega)
    simp only [if_true, hi, hj, Option.bind_some]
    rw [if_pos i0, if_pos i1, if_pos j0, if_pos j1]
    obtain ⟨l, a, c, d, e, h⟩ := edge_j1 k (by omega) b (p + 1 + 1) hb (by omega) (by omega) (rd_T55 ns i).f0 (rd_T55 ns i).f1 (rd_T55 ns j).f0 (rd_T55 ns j).f1
    exact ⟨l, a, c, d, e, _, h, by omega, by omega⟩
  | false =>
    simp only [Bool.false_eq_true, if_false]
    obtain ⟨l, a, c, d, e, h⟩ := edge_j1 k (by omega) b p hb (by omega) (by omega) x y u v
    exact ⟨l, a, c, d, e, _, h, by omega, by omega⟩
theorem edge_ok (k : Nat) (hk : 11 ≤ k) (b : List Int) (p : Int) (hb : ∀ x ∈ b, 0 ≤ x ∧ x ≤ 255) (hp0 : 0 ≤ p) (hp : p ≤ 700000) (ns : List S55) (es : List S57) :
    ∃ l a c d e q, spec_l2Edge.f k b p ns es = some (l, a, c, d, e, q) ∧ p ≤ q ∧ q ≤ p + 8 := by
  obtain ⟨x, y, h1⟩ := node_ok k (by omega) b p hb hp0 (by omega)
  obtain ⟨u, v, h2⟩ := node_ok k (by omega) b (p + 2) hb (by omega) (by omega)
  unfold spec_l2Edge.f
  simp only [h1, h2, Option.bind_some]
  by_cases c : (ns.length : Int) > 1
  · rw [if_pos c]
    obtain ⟨t, ht, _, _⟩ := pick_ok k (by omega) b (p + 2 + 2) 8 hb (by omega) (by omega) (by omega)
    simp only [ht, Option.bind_some]
    obtain ⟨l, a, c, d, e, q, h, q0, q1⟩ := edge_j0 k (by omega) b (p + 2 + 2 + 1) hb (by omega) (by omega) (decide (t > 0)) ns es (fun _ => by omega) x y u v
    exact ⟨l, a, c, d, e, q, h, by omega, by omega⟩
  · rw [if_neg c]
    obtain ⟨l, a, c, d, e, q, h, q0, q1⟩ := edge_j0 k (by omega) b (p + 2 + 2) hb (by omega) (by omega) false ns es (fun h => by cases h) x y u v
    exact ⟨l, a, c, d, e, q, h, by omega, by omega⟩
/-- What a drawn operation is: eight numbers, and how far the reader has gone. -/
def Op8 (r : Option (Int × Int × Int × Int × Int × Int × Int × Int × Int)) (p c : Int) : Prop := ∃ a0 a1 a2 a3 a4 a5 a6 a7 q, r = some (a0, a1, a2, a3, a4, a5, a6, a7, q) ∧ p ≤ q ∧ q ≤ p + c
theorem Op8.up {r p c p' c'} (h : Op8 r p c) (h1 : p' ≤ p) (h2 : p + c ≤ p' + c') : Op8 r p' c' := by
  obtain ⟨a0, a1, a2, a3, a4, a5, a6, a7, q, h, q0, q1⟩ := h
  exact ⟨a0, a1, a2, a3, a4, a5, a6, a7, q, h, by omega, by omega⟩
theorem op_j0 (k : Nat) (hk : 2 ≤ k) (b : List Int) (p : Int) (hb : ∀ x ∈ b, 0 ≤ x ∧ x ≤ 255) (hp0 : 0 ≤ p) (hp : p ≤ 900000) (a0 a1 a2 a3 a4 a5 a6 a7 : Int) : Op8 (spec_l2Op.j0 k b p a0 a1 a2 a3 a4 a5 a6 a7) p 2 := by
  obtain ⟨k, rfl⟩ : ∃ m, k = m + 1 := ⟨k - 1, by omega⟩
  obtain ⟨t, ht, _, _⟩ := pick_ok k (by omega) b p 60 hb hp0 (by omega) (by omega)
  obtain ⟨n0, h0, _⟩ := num_ok k (by omega) b (p + 1) [0, 5, (-1), 2] hb (by omega) (by omega) (by decide)
  obtain ⟨n1, h1, _⟩ := num_ok k (by omega) b (p + 1) [(-1), 41, 5] hb (by omega) (by omega) (by decide)
  obtain ⟨n2, h2, _⟩ := num_ok k (by omega) b (p + 1) [0, 8, (-1)] hb (by omega) (by omega) (by decide)
  simp only [spec_l2Op.j0, ht, h0, h1, h2, Option.bind_some]
  repeat' split
  all_goals exact ⟨_, _, _, _, _, _, _, _, _, rfl, by omega, by omega⟩
theorem op_ok (k : Nat) (hk : 11 ≤ k) (b : List Int) (p : Int) (hb : ∀ x ∈ b, 0 ≤ x ∧ x ≤ 255) (hp0 : 0 ≤ p) (hp : p ≤ 600000) (ns : List S55) (es : List S57) : Op8 (spec_l2Op.f k b p ns es) p 20 := by
  obtain ⟨t, ht, _⟩ := num_ok k (by omega) b p [1, 2, 2, 1, 2, 3, 4, 2] hb hp0 (by omega) (by decide)
  obtain ⟨x, y, h1⟩ := node_ok k (by omega) b (p + 1) hb (by omega) (by omega)
  obtain ⟨l, a, c, d, e, q, h2, q0, q1⟩ := edge_ok k hk b (p + 1) hb (by omega) (by omega) ns es
  obtain ⟨u, hu, _, _⟩ := pick_ok k (by omega) b q 4 hb (by omega) (by omega) (by omega)
  obtain ⟨w, hw, _, _⟩ := pick_ok k (by omega) b (p + 1 + 2) 2 hb (by omega) (by omega) (by omega)
  unfold spec_l2Op.f
  simp only [ht, h1, h2, hu, hw, Option.bind_some]
  by_cases c1 : t = 1
  · rw [if_pos c1]; exact (op_j0 k (by omega) b _ hb (by omega) (by omega) _ _ _ _ _ _ _ _).up (by omega) (by omega)
  rw [if_neg c1]
  by_cases c2 : t = 2
  · rw [if_pos c2]; exact (op_j0 k (by omega) b _ hb (by omega) (by omega) _ _ _ _ _ _ _ _).up (by omega) (by omega)
  rw [if_neg c2]
  by_cases c3 : t = 3
  · rw [if_pos c3]
    by_cases c4 : (es.length : Int) > 0
    · rw [if_pos c4]
      by_cases c5 : u > 0
      · rw [if_pos c5]
        obtain ⟨j, hj, j0, j1⟩ := pick_ok k (by omega) b (q + 1) es.length hb (by omega) (by omega) (by omega)
        rw [hj]; simp only [Option.bind_some]
        rw [if_pos j0, if_pos j1]
        exact (op_j0 k (by omega) b _ hb (by omega) (by omega) _ _ _ _ _ _ _ _).up (by omega) (by omega)
      · rw [if_neg c5]; exact (op_j0 k (by omega) b _ hb (by omega) (by omega) _ _ _ _ _ _ _ _).up (by omega) (by omega)
    · rw [if_neg c4]; exact (op_j0 k (by omega) b _ hb (by omega) (by omega) _ _ _ _ _ _ _ _).up (by omega) (by omega)
  rw [if_neg c3]
  by_cases c6 : t = 4
  · rw [if_pos c6]
    by_cases c4 : (ns.length : Int) > 0
    · rw [if_pos c4]
      by_cases c5 : w > 0
      · rw [if_pos c5]
        obtain ⟨j, hj, j0, j1⟩ := pick_ok k (by omega) b (p + 1 + 2 + 1) ns.length hb (by omega) (by omega) (by omega)
        rw [hj]; simp only [Option.bind_some]
        rw [if_pos j0, if_pos j1]
        exact (op_j0 k (by omega) b _ hb (by omega) (by omega) _ _ _ _ _ _ _ _).up (by omega) (by omega)
      · rw [if_neg c5]; exact (op_j0 k (by omega) b _ hb (by omega) (by omega) _ _ _ _ _ _ _ _).up (by omega) (by omega)
    · rw [if_neg c4]; exact (op_j0 k (by omega) b _ hb (by omega) (by omega) _ _ _ _ _ _ _ _).up (by omega) (by omega)
  · rw [if_neg c6]; exact (op_j0 k (by omega) b _ hb (by omega) (by omega) _ _ _ _ _ _ _ _).up (by omega) (by omega)
theorem opLabel_tot (k : Nat) (hk : 2 ≤ k) (a0 a1 a2 a3 a4 a5 a6 a7 : Int) : ∃ r, spec_OpLabel.f k a0 a1 a2 a3 a4 a5 a6 a7 = some r := by
  obtain ⟨k, rfl⟩ : ∃ m, k = m + 2 := ⟨k - 2, by omega⟩
  unfold spec_OpLabel.f
  simp only [spec_OpLabel.j0, spec_OpLabel.j1, spec_EdgeOk.f, sN, Option.bind_some]
  repeat' split
  all_goals exact ⟨_, rfl⟩
theorem edgeAt_l0 (ns : List S55) (es : List S57) (hm : es.length ≤ 2097152) (a b c d e : Int) : ∀ (n k i : Nat), i + n = es.length → n < k → ∃ r, spec_l2EdgeAt.l0 k i ns es a b c d e = some r := by
  intro n
  induction n with
  | zero =>
    intro k i hd hk
    obtain ⟨k, rfl⟩ : ∃ m, k = m + 1 := ⟨k - 1, by omega⟩
    simp only [spec_l2EdgeAt.l0]; rw [if_neg (by omega)]; exact ⟨_, rfl⟩
  | succ n ih =>
    intro k i hd hk
    obtain ⟨k, rfl⟩ : ∃ m, k = m + 1 := ⟨k - 1, by omega⟩
    simp only [spec_l2EdgeAt.l0]
    rw [if_pos (by omega), if_pos (by omega), w64 (x := (i : Int) + 1) (by omega), show (i : Int) + 1 = ((i + 1 : Nat) : Int) by omega]
    split
    · exact ⟨_, rfl⟩
    · exact ih k (i + 1) (by omega) (by omega)
theorem ends_tot (ns : List S55) (es : List S57) (hn : ns.length ≤ 2097152) (hm : es.length ≤ 2097152) (k : Nat) (hk : ns.length + es.length + 4 < k) (a0 a1 a2 a3 a4 a5 a6 a7 : Int) : ∃ r, spec_l2Ends.f k ns es a0 a1 a2 a3 a4 a5 a6 a7 = some r := by
  obtain ⟨r1, h1, _⟩ := at_ok ns es hn a1 a2 k (by omega)
  obtain ⟨r2, h2⟩ := edgeAt_l0 ns es hm a3 a4 a5 a6 a7 es.length k 0 (by omega) (by omega)
  obtain ⟨r3, h3, _⟩ := at_ok ns es hn a4 a5 k (by omega)
  obtain ⟨r4, h4, _⟩ := at_ok ns es hn a6 a7 k (by omega)
  unfold spec_l2Ends.f spec_l2EdgeAt.f
  rw [show ((0 : Nat) : Int) = 0 from rfl] at h2
  simp only [h1, h2, h3, h4, Option.bind_some]
  obtain ⟨k, rfl⟩ : ∃ m, k = m + 3 := ⟨k - 3, by omega⟩
  have n0 := cntN_l0 ns es hn a1 ns.length k 0 0 (by omega) (by omega) (by omega)
  have e0 := cntE_l0 ns es hm a3 es.length k 0 0 (by omega) (by omega) (by omega)
  rw [show ((0 : Nat) : Int) = 0 from rfl] at n0 e0
  have j2 : ∀ t, ∃ r, spec_l2Ends.j2 (k + 1) t ns es a0 a1 a2 a3 a4 a5 a6 a7 = some r := by
    intro t
    simp only [spec_l2Ends.j2, spec_l2Nodes.f, spec_l2Edges.f, n0, e0, Option.bind_some]
    repeat' split
    all_goals exact ⟨_, rfl⟩
  have j1 : ∀ t u v w, ∃ r, spec_l2Ends.j1 (k + 2) t u v w ns es a0 a1 a2 a3 a4 a5 a6 a7 = some r := by
    intro t u v w
    simp only [spec_l2Ends.j1]
    repeat' split
    all_goals first | exact ⟨_, rfl⟩ | exact j2 _
  have j0 : ∀ t u v, ∃ r, spec_l2Ends.j0 (k + 3) t u v ns es a0 a1 a2 a3 a4 a5 a6 a7 = some r := by
    intro t u v
    simp only [spec_l2Ends.j0]
    repeat' split
    all_goals exact j1 _ _ _ _
  split <;> exact j0 _ _ _
theorem copy_ok (ns : List S55) (es : List S57) (hn : ns.length ≤ 2097152) (hm : es.length ≤ 2097152) : spec_l2Copy.f ns es = some (ns, es) := by
  unfold spec_l2Copy.f
  simp only [Option.bind_some, List.length_nil, Nat.zero_add, List.nil_append]
  rw [if_pos (by omega), if_pos (by omega)]
theorem putN_l0 (ns : List S55) (es : List S57) (hn : ns.length ≤ 2097152) (a b : Int) : ∀ (d k i : Nat), i + d = ns.length → d < k → ∃ ns', spec_l2PutNode.l0 k i ns es a b = some (ns', es) ∧ ns'.length = ns.length + 1 := by
  intro d
  have fin : ∀ i : Nat, i ≤ ns.length → ∃ ns' : List S55, (some (([] : List S55) : List S55)).bind (fun y => if (i : Int) ≤ (ns.length : Int) then ((some (ns.drop (i : Int).toNat : List S55)).bind fun y1 => (if y.length + y1.length < 8796093022208 then ((some (y ++ y1 : List S55)).bind fun y2 => ((some (ns.take (i : Int).toNat : List S55)).bind fun y3 => (if y3.length < 8796093022208 then ((some (y3 ++ [(⟨a, b⟩ : S55)] : List S55)).bind fun y4 => (if y4.length + y2.length < 8796093022208 then (some ((y4 ++ y2), es)) else (none))) else (none)))) else (none))) else (none)) = some (ns', es) ∧ ns'.length = ns.length + 1 := by
    intro i hi
    simp only [Option.bind_some, Int.toNat_natCast]
    rw [if_pos (by omega), if_pos (by simp; omega), if_pos (by simp; omega), if_pos (by simp; omega)]
    exact ⟨_, rfl, by simp; omega⟩
  induction d with
  | zero =>
    intro k i hd hk
    obtain ⟨k, rfl⟩ : ∃ m, k = m + 1 := ⟨k - 1, by omega⟩
    simp only [spec_l2PutNode.l0]
    rw [if_neg (by omega)]
    have := fin i (by omega)
    simpa only [if_pos (show 0 ≤ (i : Int) by omega)] using this
  | succ d ih =>
    intro k i hd hk
    obtain ⟨k, rfl⟩ : ∃ m, k = m + 1 := ⟨k - 1, by omega⟩
    simp only [spec_l2PutNode.l0, spec_l2Code.f]
    rw [if_pos (by omega), if_pos (by omega), w64 (x := (i : Int) + 1) (by omega), Option.bind_some, Option.bind_some]
    split
    · have := ih k (i + 1) (by omega) (by omega)
      rwa [show ((i + 1 : Nat) : Int) = (i : Int) + 1 by omega] at this
    · exact fin i (by omega)
theorem putN_ok (ns : List S55) (es : List S57) (hn : ns.length ≤ 2097152) (a b : Int) (k : Nat) (hk : ns.length < k) : ∃ ns', spec_l2PutNode.f k ns es a b = some (ns', es) ∧ ns'.length = ns.length + 1 := putN_l0 ns es hn a b ns.length k 0 (by omega) hk
theorem putE_l0 (ns : List S55) (es : List S57) (hm : es.length ≤ 2097152) (a b c d' e : Int) : ∀ (d k i : Nat), i + d = es.length → d < k → ∃ es', spec_l2PutEdge.l0 k i ns es a b c d' e = some (ns, es') ∧ es'.length = es.length + 1 := by
  intro d
  have fin : ∀ i : Nat, i ≤ es.length → ∃ es' : List S57, (some (([] : List S57) : List S57)).bind (fun y => if (i : Int) ≤ (es.length : Int) then ((some (es.drop (i : Int).toNat : List S57)).bind fun y1 => (if y.length + y1.length < 3518437208883 then ((some (y ++ y1 : List S57)).bind fun y2 => ((some (es.take (i : Int).toNat : List S57)).bind fun y3 => (if y3.length < 3518437208883 then ((some (y3 ++ [(⟨a, (⟨b, c⟩ : S55), (⟨d', e⟩ : S55)⟩ : S57)] : List S57)).bind fun y4 => (if y4.length + y2.length < 3518437208883 then (some (ns, (y4 ++ y2))) else (none))) else (none)))) else (none))) else (none)) = some (ns, es') ∧ es'.length = es.length + 1 := by
    intro i hi
    simp only [Option.bind_some, Int.toNat_natCast]
    rw [if_pos (by omega), if_pos (by simp; omega), if_pos (by simp; omega), if_pos (by simp; omega)]
    exact ⟨_, rfl, by simp; omega⟩
  induction d with
  | zero =>
    intro k i hd hk
    obtain ⟨k, rfl⟩ : ∃ m, k = m + 1 := ⟨k - 1, by omega⟩
    simp only [spec_l2PutEdge.l0]
    rw [if_neg (by omega)]
    have := fin i (by omega)
    simpa only [if_pos (show 0 ≤ (i : Int) by omega)] using this
  | succ d ih =>
    intro k i hd hk
    obtain ⟨k, rfl⟩ : ∃ m, k = m + 1 := ⟨k - 1, by omega⟩
    obtain ⟨t, ht⟩ := less_tot (rd_T57 es i).f0 (rd_T57 es i).f1.f0 (rd_T57 es i).f1.f1 (rd_T57 es i).f2.f0 (rd_T57 es i).f2.f1 a b c d' e
    simp only [spec_l2PutEdge.l0]
    rw [if_pos (by omega), if_pos (by omega), w64 (x := (i : Int) + 1) (by omega), ht, Option.bind_some]
    split
    · have := ih k (i + 1) (by omega) (by omega)
      rwa [show ((i + 1 : Nat) : Int) = (i : Int) + 1 by omega] at this
    · exact fin i (by omega)
theorem cut_l0 (ns : List S55) (es : List S57) (hm : es.length ≤ 2097152) (a b c d' e : Int) : ∀ (d k i : Nat) (out : List S57), i + d = es.length → out.length ≤ i → d < k → ∃ es', spec_l2Cut.l0 k out i ns es a b c d' e = some (ns, es') ∧ es'.length ≤ es.length := by
  intro d
  induction d with
  | zero =>
    intro k i out hd ho hk
    obtain ⟨k, rfl⟩ : ∃ m, k = m + 1 := ⟨k - 1, by omega⟩
    simp only [spec_l2Cut.l0]; rw [if_neg (by omega)]; exact ⟨_, rfl, by omega⟩
  | succ d ih =>
    intro k i out hd ho hk
    obtain ⟨k, rfl⟩ : ∃ m, k = m + 1 := ⟨k - 1, by omega⟩
    simp only [spec_l2Cut.l0]
    rw [if_pos (by omega), if_pos (by omega), w64 (x := (i : Int) + 1) (by omega), show (i : Int) + 1 = ((i + 1 : Nat) : Int) by omega]
    split
    · rw [if_pos (by omega)]; exact ih k (i + 1) _ (by omega) (by simp; omega) (by omega)
    · exact ih k (i + 1) _ (by omega) (by omega) (by omega)
theorem off_l1 (ns : List S55) (es : List S57) (hm : es.length ≤ 2097152) (a b : Int) (on_ : List S55) : ∀ (d k i : Nat) (out : List S57), i + d = es.length → out.length ≤ i → d < k → ∃ es', spec_l2Off.l1 k i ns es a b on_ out = some (on_, es') ∧ es'.length ≤ es.length := by
  intro d
  induction d with
  | zero =>
    intro k i out hd ho hk
    obtain ⟨k, rfl⟩ : ∃ m, k = m + 1 := ⟨k - 1, by omega⟩
    simp only [spec_l2Off.l1]; rw [if_neg (by omega)]; exact ⟨_, rfl, by omega⟩
  | succ d ih =>
    intro k i out hd ho hk
    obtain ⟨k, rfl⟩ : ∃ m, k = m + 1 := ⟨k - 1, by omega⟩
    simp only [spec_l2Off.l1]
    rw [if_pos (by omega), if_pos (by omega), w64 (x := (i : Int) + 1) (by omega), show (i : Int) + 1 = ((i + 1 : Nat) : Int) by omega]
    split
    · split
      · rw [if_pos (by omega)]; exact ih k (i + 1) _ (by omega) (by simp; omega) (by omega)
      · exact ih k (i + 1) _ (by omega) (by omega) (by omega)
    · exact ih k (i + 1) _ (by omega) (by omega) (by omega)
theorem off_l0 (ns : List S55) (es : List S57) (hn : ns.length ≤ 2097152) (hm : es.length ≤ 2097152) (a b : Int) : ∀ (d k i : Nat) (out : List S55), i + d = ns.length → out.length ≤ i → d + es.length + 1 < k → ∃ ns' es', spec_l2Off.l0 k i ns es a b out [] = some (ns', es') ∧ ns'.length ≤ ns.length ∧ es'.length ≤ es.length := by
  intro d
  induction d with
  | zero =>
    intro k i out hd ho hk
    obtain ⟨k, rfl⟩ : ∃ m, k = m + 1 := ⟨k - 1, by omega⟩
    simp only [spec_l2Off.l0]; rw [if_neg (by omega)]
    obtain ⟨es', h, hl⟩ := off_l1 ns es hm a b out es.length k 0 [] (by omega) (by simp) (by omega)
    exact ⟨out, es', h, by omega, hl⟩
  | succ d ih =>
    intro k i out hd ho hk
    obtain ⟨k, rfl⟩ : ∃ m, k = m + 1 := ⟨k - 1, by omega⟩
    simp only [spec_l2Off.l0]
    rw [if_pos (by omega), if_pos (by omega), w64 (x := (i : Int) + 1) (by omega), show (i : Int) + 1 = ((i + 1 : Nat) : Int) by omega]
    split
    · rw [if_pos (by omega)]; exact ih k (i + 1) _ (by omega) (by simp; omega) (by omega)
    · exact ih k (i + 1) _ (by omega) (by omega) (by omega)
theorem do_ok (ns : List S55) (es : List S57) (hn : ns.length ≤ 2097151) (hm : es.length ≤ 2097151) (k : Nat) (hk : ns.length + es.length + 4 < k) (a0 a1 a2 a3 a4 a5 a6 a7 : Int) :
    ∃ ns' es' c, spec_l2Do.f k ns es a0 a1 a2 a3 a4 a5 a6 a7 = some (ns', es', c) ∧ ns'.length ≤ ns.length + 1 ∧ es'.length ≤ es.length + 1 := by
  obtain ⟨t, ht⟩ := opLabel_tot k (by omega) a0 a1 a2 a3 a4 a5 a6 a7
  obtain ⟨u, hu⟩ := ends_tot ns es (by omega) (by omega) k hk a0 a1 a2 a3 a4 a5 a6 a7
  obtain ⟨n1, p1, l1⟩ := putN_ok ns es (by omega) a1 a2 k (by omega)
  obtain ⟨e1, p2, l2⟩ := putE_l0 ns es (by omega) a3 a4 a5 a6 a7 es.length k 0 (by omega) (by omega)
  obtain ⟨e2, p3, l3⟩ := cut_l0 ns es (by omega) a3 a4 a5 a6 a7 es.length k 0 [] (by omega) (by simp) (by omega)
  obtain ⟨n4, e4, p4, l4, l5⟩ := off_l0 ns es (by omega) (by omega) a1 a2 ns.length k 0 [] (by omega) (by simp) (by omega)
  rw [show ((0 : Nat) : Int) = 0 from rfl] at p2 p3 p4
  unfold spec_l2Do.f spec_l2PutEdge.f spec_l2Cut.f spec_l2Off.f
  simp only [ht, hu, copy_ok ns es (show ns.length ≤ 2097152 by omega) (show es.length ≤ 2097152 by omega), p1, p2, p3, p4, Option.bind_some]
  repeat' split
  all_goals exact ⟨_, _, _, rfl, by omega, by omega⟩
theorem graph_l0 (b : List Int) (hb : ∀ x ∈ b, 0 ≤ x ∧ x ≤ 255) : ∀ (d k : Nat) (p : Int) (ns : List S55) (es : List S57), 0 ≤ p → p + 20 * d ≤ 500000 → ns.length + d ≤ 100 → es.length + d ≤ 100 → d + 300 < k →
    ∃ ns' es' q, spec_l2Graph.l0 k d b p ns es = some (ns', es', q) ∧ ns'.length ≤ 100 ∧ es'.length ≤ 100 ∧ 0 ≤ q ∧ q ≤ p + 20 * d := by
  intro d
  induction d with
  | zero =>
    intro k p ns es hp0 hp hn hm hk
    obtain ⟨k, rfl⟩ : ∃ m, k = m + 1 := ⟨k - 1, by omega⟩
    simp only [spec_l2Graph.l0]
    rw [if_neg (by omega), copy_ok ns es (by omega) (by omega)]
    exact ⟨_, _, _, rfl, by omega, by omega, by omega, by omega⟩
  | succ d ih =>
    intro k p ns es hp0 hp hn hm hk
    obtain ⟨k, rfl⟩ : ∃ m, k = m + 1 := ⟨k - 1, by omega⟩
    obtain ⟨a0, a1, a2, a3, a4, a5, a6, a7, q, h1, q0, q1⟩ := op_ok k (by omega) b p hb hp0 (by omega) ns es
    obtain ⟨ns', es', c, h2, l1, l2⟩ := do_ok ns es (by omega) (by omega) k (by omega) a0 a1 a2 a3 a4 a5 a6 a7
    simp only [spec_l2Graph.l0, h1, h2, Option.bind_some]
    rw [if_pos (by omega), w64 (x := ((d + 1 : Nat) : Int) - 1) (by omega), show ((d + 1 : Nat) : Int) - 1 = (d : Int) by omega]
    obtain ⟨n, e, r, h3, l3, l4, r0, r1⟩ := ih k q ns' es' (by omega) (by omega) (by omega) (by omega) (by omega)
    exact ⟨n, e, r, h3, l3, l4, r0, by omega⟩
theorem graph_ok (b : List Int) (hb : ∀ x ∈ b, 0 ≤ x ∧ x ≤ 255) (k : Nat) (hk : 400 < k) (p : Int) (hp0 : 0 ≤ p) (hp : p ≤ 400000) :
    ∃ ns es q, spec_l2Graph.f k b p = some (ns, es, q) ∧ ns.length ≤ 100 ∧ es.length ≤ 100 ∧ 0 ≤ q ∧ q ≤ p + 1300 := by
  obtain ⟨t, ht, tm⟩ := num_ok k (by omega) b p [12, 24, 36, 48, 60, 5, 0] hb hp0 (by omega) (by decide)
  have t0 : 0 ≤ t ∧ t ≤ 60 := by simp at tm; omega
  obtain ⟨d, rfl⟩ := Int.eq_ofNat_of_zero_le t0.1
  obtain ⟨ns, es, q, h, l1, l2, q0, q1⟩ := graph_l0 b hb d k (p + 1) [] [] (by omega) (by omega) (by simp; omega) (by simp; omega) (by omega)
  exact ⟨ns, es, q, by unfold spec_l2Graph.f; rw [ht]; exact h, l1, l2, q0, by omega⟩

theorem l1Label_ok (k : Nat) (hk : 1 ≤ k) (b : List Int) (p : Int) (hb : ∀ x ∈ b, 0 ≤ x ∧ x ≤ 255) (hp0 : 0 ≤ p) (hp : p ≤ 900000) :
    ∃ v, spec_l1Label.f k b p = some (v, p + 2) ∧ -9223372036854775808 ≤ v ∧ v ≤ 9223372036854775807 := by
  obtain ⟨v, hv, v0, v1⟩ := pick_ok k hk b p 20 hb hp0 (by omega) (by omega)
  unfold spec_l1Label.f
  rw [hv]
  simp only [Option.bind_some]
  by_cases h : v = 0
  · rw [if_pos h]
    obtain ⟨u, hu, um⟩ := num_ok k hk b (p + 1) [(-1), 8, 9223372036854775807, (-9223372036854775808)] hb (by omega) (by omega) (by decide)
    rw [hu]
    refine ⟨u, by simp; omega, ?_⟩
    simp at um; omega
  · rw [if_neg h]
    obtain ⟨u, hu, u0, u1⟩ := pick_ok k hk b (p + 1) 8 hb (by omega) (by omega) (by omega)
    rw [hu]
    exact ⟨u, by simp; omega, by omega, by omega⟩

/-- The bytes of a number. -/
def Pk (n : Int) : List Int := if n < 0 ∨ n > 16383 then [] else if n < 128 then [n] else [128 + n / 128, n % 128]
theorem Pk_len (n : Int) : (Pk n).length ≤ 2 := by
  unfold Pk
  split
  · simp
  · split <;> simp
theorem sPk (k : Nat) (hk : 1 ≤ k) (n : Int) : spec_PackNum.f k n = some (strOfNums (Pk n)) := by
  obtain ⟨k, rfl⟩ : ∃ m, k = m + 1 := ⟨k - 1, by omega⟩
  unfold spec_PackNum.f Pk
  by_cases h0 : n < 0
  · rw [if_pos h0, if_pos (.inl h0)]; simp [spec_PackNum.j0, strOfNums]
  · rw [if_neg h0]
    by_cases h1 : n > 16383
    · rw [if_pos (.inr h1)]; simp [spec_PackNum.j0, h1, strOfNums]
    · rw [if_neg (by omega)]
      by_cases h2 : n < 128
      · simp [spec_PackNum.j0, h1, h2, Int.emod_eq_of_lt (show 0 ≤ n by omega) (show n < 256 by omega)]
      · have d1 : Int.tdiv n 128 = n / 128 := Int.tdiv_eq_ediv_of_nonneg (by omega)
        have d2 : Int.tmod n 128 = n % 128 := Int.tmod_eq_emod_of_nonneg (by omega)
        simp only [spec_PackNum.j0, d1, d2, w64 (x := n / 128) (by omega), w64 (x := 128 + n / 128) (by omega)]
        simp [h1, h2, Int.emod_eq_of_lt (show 0 ≤ 128 + n / 128 by omega) (show 128 + n / 128 < 256 by omega), Int.emod_eq_of_lt (show 0 ≤ n % 128 by omega) (show n % 128 < 256 by omega)]
theorem son_app (a b : List Int) : strOfNums (a ++ b) = strOfNums a ++ strOfNums b := by
  simp [strOfNums, ByteArray.ext_iff]
theorem son_size (a : List Int) : (strOfNums a).size = a.length := by simp [strOfNums, ByteArray.size]
/-- The gaps' bytes of a list, from a number on. -/
def Gp : Int → List Int → List Int
  | _, [] => []
  | last, x :: xs => Pk (x - last - 1) ++ Gp x xs
/-- It ascends from a number on, up to the greatest. -/
def Up : Int → List Int → Bool
  | _, [] => true
  | last, x :: xs => decide (last < x) && (decide (x ≤ 16383) && Up x xs)
theorem Up_cons {last x : Int} {xs : List Int} : Up last (x :: xs) = true ↔ last < x ∧ x ≤ 16383 ∧ Up x xs = true := by simp [Up]
theorem Gp_len : ∀ (last : Int) (l : List Int), (Gp last l).length ≤ 2 * l.length
  | _, [] => by simp [Gp]
  | last, x :: xs => by have := Pk_len (x - last - 1); have := Gp_len x xs; simp [Gp]; omega
/-- The bytes of a row. -/
def Rw (l : List Int) : List Int := if l.length ≤ 127 ∧ Up (-1) l = true then Pk l.length ++ Gp (-1) l else []
theorem Rw_len (l : List Int) : (Rw l).length ≤ 256 := by
  unfold Rw
  split
  · rename_i h; have := Pk_len l.length; have := Gp_len (-1) l; simp; omega
  · simp
theorem tloop (s : ByteArray) : ∀ (d i : Nat) (r : List UInt8), s.size - i = d → (ByteArray.toList.loop s i r).length = r.length + d := by
  intro d
  induction d with
  | zero => intro i r h; unfold ByteArray.toList.loop; rw [if_neg (by omega)]; simp
  | succ d ih => intro i r h; unfold ByteArray.toList.loop; rw [if_pos (by omega), ih (i + 1) _ (by omega)]; simp; omega
theorem tlen (s : ByteArray) : s.toList.length = s.size := by
  have := tloop s s.size 0 [] (by omega)
  simpa [ByteArray.toList] using this
theorem rd_at {xs : List Int} {i : Nat} (h : i < xs.length) : rd xs (i : Int) = xs[i] := by
  unfold rd; rw [Int.toNat_natCast, List.getD_eq_getElem?_getD, List.getElem?_eq_getElem h]; rfl

theorem sUp_l0 (xs : List Int) (hm : xs.length ≤ 1048576) : ∀ (d k : Nat) (i : Nat) (last : Int), i + d = xs.length → (i = 0 ∧ last = -1 ∨ 0 < i ∧ last = rd xs ((i : Int) - 1) ∧ 0 ≤ last) → d < k →
    spec_l4Up.l0 k xs i = some (Up last (xs.drop i) && decide ((xs.length : Int) ≤ 127)) := by
  intro d
  induction d with
  | zero =>
    intro k i last hd hl hk
    obtain ⟨k, rfl⟩ : ∃ m, k = m + 1 := ⟨k - 1, by omega⟩
    simp only [spec_l4Up.l0]
    rw [if_neg (by omega), List.drop_of_length_le (by omega)]; simp [Up]
  | succ d ih =>
    intro k i last hd hl hk
    obtain ⟨k, rfl⟩ : ∃ m, k = m + 1 := ⟨k - 1, by omega⟩
    have hi : i < xs.length := by omega
    simp only [spec_l4Up.l0]
    rw [if_pos (by omega), if_pos (by omega), List.drop_eq_getElem_cons hi]
    have er := rd_at hi
    have ih' := ih k (i + 1) xs[i] (by omega)
    rw [show ((i + 1 : Nat) : Int) - 1 = (i : Int) by omega, show ((i + 1 : Nat) : Int) = (i : Int) + 1 by omega] at ih'
    rw [er] at ih' ⊢
    simp only [Up]
    generalize xs[i] = x at *
    by_cases c1 : x < 0
    · rw [if_pos c1, decide_eq_false (show ¬ last < x by omega)]; simp
    · rw [if_neg c1]
      by_cases c2 : x > 16383
      · rw [if_pos c2, decide_eq_false (show ¬ x ≤ 16383 by omega)]; simp
      · rw [if_neg c2, decide_eq_true (show x ≤ 16383 by omega), w64 (x := (i : Int) + 1) (by omega), w64 (x := (i : Int) - 1) (by omega)]
        rcases hl with ⟨h0, hl⟩ | ⟨h0, hl, hl0⟩
        · rw [if_neg (by omega), decide_eq_true (show last < x by omega), ih' (.inr ⟨by omega, rfl, by omega⟩) (by omega)]; simp
        · rw [if_pos (by omega), if_pos (by omega), if_pos (by omega), ← hl]
          by_cases c3 : last ≥ x
          · rw [if_pos c3, decide_eq_false (by omega)]; simp
          · rw [if_neg c3, decide_eq_true (show last < x by omega), ih' (.inr ⟨by omega, rfl, by omega⟩) (by omega)]; simp
theorem sRow_l0 (xs : List Int) (hx : xs.length ≤ 127) : ∀ (d k : Nat) (out : ByteArray) (last : Int) (i : Nat), i + d = xs.length → out.size ≤ 2 * i + 2 → -1 ≤ last → last ≤ 16383 → Up last (xs.drop i) = true → d + 1 < k →
    spec_PackRow.l0 k xs out last i = some (out ++ strOfNums (Gp last (xs.drop i))) := by
  intro d
  induction d with
  | zero =>
    intro k out last i hd ho h0 h1 hu hk
    obtain ⟨k, rfl⟩ : ∃ m, k = m + 1 := ⟨k - 1, by omega⟩
    simp only [spec_PackRow.l0]
    rw [if_neg (by omega), List.drop_of_length_le (by omega)]; simp [Gp, strOfNums, ByteArray.ext_iff]
  | succ d ih =>
    intro k out last i hd ho h0 h1 hu hk
    obtain ⟨k, rfl⟩ : ∃ m, k = m + 1 := ⟨k - 1, by omega⟩
    have hi : i < xs.length := by omega
    simp only [spec_PackRow.l0]
    rw [if_pos (by omega), if_pos (by omega), rd_at hi]
    rw [List.drop_eq_getElem_cons hi] at hu ⊢
    simp only [Up, Bool.and_eq_true, decide_eq_true_eq] at hu
    simp only [Gp]
    generalize xs[i] = x at *
    obtain ⟨u1, u2, u3⟩ := hu
    rw [w64 (x := x - last) (by omega), w64 (x := x - last - 1) (by omega), sPk k (by omega), w64 (x := (i : Int) + 1) (by omega)]
    simp only [Option.bind_some]
    have hp := Pk_len (x - last - 1)
    rw [if_pos (by rw [son_size]; omega)]
    have := ih k (out ++ strOfNums (Pk (x - last - 1))) x (i + 1) (by omega) (by rw [ByteArray.size_append, son_size]; omega) (by omega) (by omega) u3 (by omega)
    rw [show ((i + 1 : Nat) : Int) = (i : Int) + 1 by omega] at this
    rw [this, son_app, ByteArray.append_assoc]
theorem sRow (k : Nat) (xs : List Int) (hm : xs.length ≤ 1048576) (hk : xs.length + 200 ≤ k) : spec_PackRow.f k xs = some (strOfNums (Rw xs)) := by
  unfold spec_PackRow.f spec_l4Up.f Rw
  have hu := sUp_l0 xs hm xs.length k 0 (-1) (by omega) (.inl ⟨rfl, rfl⟩) (by omega)
  simp only [List.drop_zero] at hu
  rw [show ((0 : Nat) : Int) = 0 from rfl] at hu
  rw [hu]
  simp only [Option.bind_some]
  by_cases h : xs.length ≤ 127 ∧ Up (-1) xs = true
  · rw [if_pos (by rw [h.2, decide_eq_true (by omega)]; rfl), if_pos h, sPk k (by omega)]
    simp only [Option.bind_some]
    have hp := Pk_len xs.length
    have := sRow_l0 xs h.1 xs.length k (strOfNums (Pk xs.length)) (-1) 0 (by omega) (by rw [son_size]; omega) (by omega) (by omega) (by simpa using h.2) (by omega)
    rw [show ((0 : Nat) : Int) = 0 from rfl] at this
    rw [this, son_app]; simp
  · rw [if_neg, if_neg h]
    · simp [strOfNums]
    · intro hh
      simp at hh
      exact h ⟨by omega, hh.1⟩

theorem torn_ok (k : Nat) (hk : 2 ≤ k) (b : List Int) (p : Int) (t : ByteArray) (hb : ∀ x ∈ b, 0 ≤ x ∧ x ≤ 255) (hp0 : 0 ≤ p) (hp : p ≤ 900000) (ht : t.size ≤ 100000) :
    ∃ t' p', spec_l4Torn.f k b p t = some (t', p') ∧ t'.size ≤ t.size + 1 ∧ p ≤ p' ∧ p' ≤ p + 4 := by
  obtain ⟨k, rfl⟩ : ∃ m, k = m + 1 := ⟨k - 1, by omega⟩
  unfold spec_l4Torn.f
  by_cases h : t.toList = []
  · rw [if_pos h]; exact ⟨t, p, by simp [spec_l4Torn.j0], by omega, by omega, by omega⟩
  rw [if_neg h]
  obtain ⟨v, hv, v0, v1⟩ := pick_ok (k + 1) (by omega) b p 2 hb hp0 (by omega) (by omega)
  rw [hv]
  simp only [Option.bind_some, spec_l4Torn.j0]
  by_cases c : (v == 0) = true
  · rw [if_pos c]; exact ⟨t, p + 1, rfl, by omega, by omega, by omega⟩
  rw [if_neg c]
  have hz : 0 < t.size := by
    rcases Nat.eq_zero_or_pos t.size with h0 | h0
    · exact absurd (List.eq_nil_of_length_eq_zero (by rw [tlen]; exact h0)) h
    · exact h0
  obtain ⟨u, hu, u0, u1⟩ := pick_ok k (by omega) b (p + 1) (t.size : Int) hb (by omega) (by omega) (by omega)
  rw [hu]
  simp only [Option.bind_some]
  rw [if_pos u0, if_pos (by omega)]
  obtain ⟨x, hx, _⟩ := num_ok k (by omega) b (p + 1 + 1) [0, 1, 2, 3, 64, 127, 128, 129, 255] hb (by omega) (by omega) (by decide)
  rw [hx]
  simp only [Option.bind_some]
  have s1 : (t.extract 0 u.toNat).size = u.toNat := by rw [ByteArray.size_extract]; omega
  rw [if_pos (by rw [s1, son_size]; simp; omega)]
  obtain ⟨y, hy, y0, y1⟩ := pick_ok k (by omega) b (p + 1 + 1 + 1) 2 hb (by omega) (by omega) (by omega)
  rw [hy]
  simp only [Option.bind_some]
  have e : wrap64 (u + y) = u + y := w64 (by omega)
  have s2 : (t.extract (u + y).toNat t.size).size = t.size - (u + y).toNat := by rw [ByteArray.size_extract]; omega
  rw [e, if_pos (by omega), if_pos (by omega), if_pos (by rw [ByteArray.size_append, s1, s2, son_size]; simp; omega)]
  exact ⟨_, _, rfl, by rw [ByteArray.size_append, ByteArray.size_append, s1, s2, son_size]; simp; omega, by omega, by omega⟩

def Mt (a b : Int) : Int := ((a.toNat &&& b.toNat : Nat) : Int)
theorem iMeet8 : ∀ x y : Fin 8, impl_LabelMeet.f (x.val : Int) (y.val : Int) = some (Mt x.val y.val) := by decide +kernel
theorem iMeet {a b : Int} (ha : isL a = true) (hb : isL b = true) : impl_LabelMeet.f a b = some (Mt a b) := by
  obtain ⟨x, rfl⟩ := fin8 ha
  obtain ⟨y, rfl⟩ := fin8 hb
  exact iMeet8 x y
theorem U_l {a b : Int} (h : U a b = true) : isL a = true ∧ isL b = true := by simp [U] at h; exact ⟨h.1, h.2.1⟩
theorem U_tr8 : ∀ x y z : Fin 8, U (x.val : Int) y.val = true → U (y.val : Int) z.val = true → U (x.val : Int) z.val = true := by decide +kernel
theorem U_tr {a b c : Int} (h : U a b = true) (k : U b c = true) : U a c = true := by
  obtain ⟨x, rfl⟩ := fin8 (U_l h).1
  obtain ⟨y, rfl⟩ := fin8 (U_l h).2
  obtain ⟨z, rfl⟩ := fin8 (U_l k).2
  exact U_tr8 x y z h k
theorem U_mt8 : ∀ x y z : Fin 8, (U (x.val : Int) y.val && U (x.val : Int) z.val) = U x.val (Mt y.val z.val) := by decide +kernel
theorem U_mt {a c o : Int} (hc : isL c = true) (ho : isL o = true) : (U a c && U a o) = U a (Mt c o) := by
  by_cases h : isL a = true
  · obtain ⟨x, rfl⟩ := fin8 h
    obtain ⟨y, rfl⟩ := fin8 hc
    obtain ⟨z, rfl⟩ := fin8 ho
    exact U_mt8 x y z
  · simp [U, h]

theorem w1n (i : Nat) (h : i ≤ 1099511627776) : wrap64 ((i : Int) + 1) = ((i + 1 : Nat) : Int) := by rw [w64 (x := (i : Int) + 1) (by omega)]; omega
theorem iIs (a : Int) : impl_LabelOk.f a = some (isL a) := by
  unfold impl_LabelOk.f isL
  by_cases h : 0 ≤ a
  · rw [if_pos h]; simp [h]
  · rw [if_neg h]; simp [h]
theorem iU8 : ∀ a b : Fin 8, impl_LabelUnder.f (a.val : Int) (b.val : Int) = some (U a.val b.val) := by decide +kernel
theorem iU (a b : Int) : impl_LabelUnder.f a b = some (U a b) := by
  by_cases ha : isL a = true
  · by_cases hb : isL b = true
    · obtain ⟨x, rfl⟩ := fin8 ha
      obtain ⟨y, rfl⟩ := fin8 hb
      exact iU8 x y
    · simp [impl_LabelUnder.f, iIs, U, ha, hb]
  · simp [impl_LabelUnder.f, iIs, U, ha]
theorem sUn (k : Nat) (hk : 12 ≤ k) (a b : Int) : spec_LabelUnder.f k a b = some (U a b) := by
  unfold spec_LabelUnder.f
  rw [sIs]
  by_cases ha : isL a = true
  · by_cases hb : isL b = true
    · rw [sIs, Option.bind_some, if_pos ha, Option.bind_some, if_pos hb, Go.Proofs.YtkbamcicbofjbaaW.PrintWords.at_rounds (g := fun k => spec_l1Under.f k a b) (fun k => spec_l1Under.mono _ _ k) (show 10 ≤ k by omega) (sU ha hb)]
      rfl
    · rw [sIs, Option.bind_some, if_pos ha, Option.bind_some, if_neg hb]; simp [U, hb]
  · rw [Option.bind_some, if_neg ha]; simp [U, ha]
theorem rdS_at {xs : List S42} {i : Nat} (h : i < xs.length) : rd_T42 xs (i : Int) = xs[i] := by
  unfold rd_T42; rw [Int.toNat_natCast, List.getD_eq_getElem?_getD, List.getElem?_eq_getElem h]; rfl
/-- What is seen of a store. -/
def vS (c : Int) (xs : List S42) : List S42 := xs.filter fun x => U x.f0 c
theorem sView_l0 (xs : List S42) (c : Int) (hm : xs.length ≤ 1000) : ∀ (d k : Nat) (ys : List S42) (i : Nat), i + d = xs.length → ys.length ≤ i → d + 20 < k →
    spec_StoreView.l0 k xs c ys i = some (ys ++ vS c (xs.drop i)) := by
  intro d
  induction d with
  | zero =>
    intro k ys i hd hy hk
    obtain ⟨k, rfl⟩ : ∃ m, k = m + 1 := ⟨k - 1, by omega⟩
    rw [spec_StoreView.l0]
    rw [if_neg (by omega), List.drop_of_length_le (by omega)]; simp [vS]
  | succ d ih =>
    intro k ys i hd hy hk
    obtain ⟨k, rfl⟩ : ∃ m, k = m + 1 := ⟨k - 1, by omega⟩
    have hi : i < xs.length := by omega
    rw [spec_StoreView.l0]
    rw [if_pos (by omega), if_pos (by omega), sUn k (by omega), rdS_at hi]
    simp only [Option.bind_some]
    rw [w1n i (by omega), List.drop_eq_getElem_cons hi]
    unfold vS at ih ⊢
    rw [List.filter_cons]
    by_cases h : U xs[i].f0 c = true
    · rw [if_pos h, if_pos h, if_pos (by omega), ih k _ (i + 1) (by omega) (by simp; omega) (by omega)]; simp
    · rw [if_neg h, if_neg h, ih k _ (i + 1) (by omega) (by omega) (by omega)]
theorem iView_l0 (xs : List S42) (c : Int) (hm : xs.length ≤ 1000) : ∀ (d k : Nat) (ys : List S42) (i : Nat), i + d = xs.length → ys.length ≤ i → d < k →
    impl_StoreView.l0 k c ys xs xs.length i = some (ys ++ vS c (xs.drop i)) := by
  intro d
  induction d with
  | zero =>
    intro k ys i hd hy hk
    obtain ⟨k, rfl⟩ : ∃ m, k = m + 1 := ⟨k - 1, by omega⟩
    rw [impl_StoreView.l0]
    rw [if_neg (by omega), List.drop_of_length_le (by omega)]; simp [vS]
  | succ d ih =>
    intro k ys i hd hy hk
    obtain ⟨k, rfl⟩ : ∃ m, k = m + 1 := ⟨k - 1, by omega⟩
    have hi : i < xs.length := by omega
    rw [impl_StoreView.l0]
    rw [if_pos (by omega), if_pos (by omega), if_pos (by omega), iU, rdS_at hi]
    simp only [Option.bind_some]
    rw [w1n i (by omega), List.drop_eq_getElem_cons hi]
    unfold vS at ih ⊢
    rw [List.filter_cons]
    by_cases h : U xs[i].f0 c = true
    · rw [if_pos h, if_pos h, if_pos (by omega), ih k _ (i + 1) (by omega) (by simp; omega) (by omega)]; simp
    · rw [if_neg h, if_neg h, ih k _ (i + 1) (by omega) (by omega) (by omega)]
theorem sVw (xs : List S42) (c : Int) (hm : xs.length ≤ 1000) (k : Nat) (hk : 1100 < k) : spec_StoreView.f k xs c = some (vS c xs) := by
  have := sView_l0 xs c hm xs.length k [] 0 (by omega) (by simp) (by omega)
  unfold spec_StoreView.f
  simpa using this
theorem iVw (xs : List S42) (c : Int) (hm : xs.length ≤ 1000) (k : Nat) (hk : 1100 < k) : impl_StoreView.f k xs c = some (vS c xs) := by
  have := iView_l0 xs c hm xs.length k [] 0 (by omega) (by simp) (by omega)
  unfold impl_StoreView.f
  simpa using this
theorem vS_len (c : Int) (xs : List S42) : (vS c xs).length ≤ xs.length := List.length_filter_le _ _
theorem vS_vS {a b : Int} (ha : isL a = true) (hb : isL b = true) (xs : List S42) : vS b (vS a xs) = vS (Mt a b) xs := by
  unfold vS
  rw [List.filter_filter]
  congr 1
  funext x
  rw [← U_mt ha hb, Bool.and_comm]
theorem same_l0 (xs : List S42) (hm : xs.length ≤ 1000) : ∀ (d k i : Nat), i + d = xs.length → d < k → impl_Seg.l0 k xs xs xs.length i = some true := by
  intro d
  induction d with
  | zero =>
    intro k i hd hk
    obtain ⟨k, rfl⟩ : ∃ m, k = m + 1 := ⟨k - 1, by omega⟩
    rw [impl_Seg.l0]; rw [if_neg (by omega)]
  | succ d ih =>
    intro k i hd hk
    obtain ⟨k, rfl⟩ : ∃ m, k = m + 1 := ⟨k - 1, by omega⟩
    rw [impl_Seg.l0]
    rw [if_pos (by omega), if_pos (by omega), if_pos (by omega), if_pos (by omega), if_neg (by simp), w1n i (by omega)]
    exact ih k (i + 1) (by omega) (by omega)
theorem same_ok (xs : List S42) (hm : xs.length ≤ 1000) (k : Nat) (hk : 1100 < k) : impl_StoreSame.f k xs xs = some true := by
  have := same_l0 xs hm xs.length k 0 (by omega) (by omega)
  unfold impl_StoreSame.f impl_Seg.f
  rw [if_pos rfl]
  rw [show ((0 : Nat) : Int) = 0 from rfl] at this
  rw [this]; rfl
/-! whatever is drawn: some store -/
theorem at_tot (ns : List S55) (es : List S57) (hm : ns.length ≤ 1000) (a b : Int) (k : Nat) (hk : 1000 < k) : ∃ r, spec_l2At.f k ns es a b = some r := by
  obtain ⟨r, h, _⟩ := at_ok ns es (by omega) a b k (by omega)
  exact ⟨r, h⟩
theorem near_l0 (ns : List S55) (es : List S57) (hm : es.length ≤ 200) (a b : Int) : ∀ (d k i : Nat) (out : List S55) (oe : List S57), i + d = es.length → out.length ≤ i → 1200 + 2 * d < k →
    ∃ L, spec_l2Near.l0 k (i : Int) ns es a b out oe = some L ∧ L.length ≤ es.length := by
  intro d
  induction d with
  | zero =>
    intro k i out oe hd ho hk
    obtain ⟨k, rfl⟩ : ∃ m, k = m + 1 := ⟨k - 1, by omega⟩
    rw [spec_l2Near.l0]
    rw [if_neg (by omega)]
    simp only [Option.bind_some, List.nil_append, List.length_nil, Nat.zero_add]
    rw [if_pos (by omega)]
    exact ⟨_, rfl, by omega⟩
  | succ d ih =>
    intro k i out oe hd ho hk
    obtain ⟨k, rfl⟩ : ∃ m, k = m + 1 := ⟨k - 1, by omega⟩
    have j1 : ∀ x y, ∃ L, spec_l2Near.j1 k (i : Int) ns es a b out oe x y = some L ∧ L.length ≤ es.length := by
      intro x y
      obtain ⟨k, rfl⟩ : ∃ m, k = m + 1 := ⟨k - 1, by omega⟩
      rw [spec_l2Near.j1]
      obtain ⟨r, hr⟩ := at_tot out oe (by omega) x y k (by omega)
      rw [hr, Option.bind_some, w1n i (by omega)]
      split
      · obtain ⟨ns', hp, hl⟩ := putN_ok out oe (by omega) x y k (by omega)
        rw [hp, Option.bind_some]
        exact ih k (i + 1) _ _ (by omega) (by simp only; omega) (by omega)
      · exact ih k (i + 1) _ _ (by omega) (by omega) (by omega)
    rw [spec_l2Near.l0]
    rw [if_pos (by omega), if_pos (by omega)]
    split
    · exact j1 _ _
    · split
      · rw [w1n i (by omega)]
        exact ih k (i + 1) _ _ (by omega) (by omega) (by omega)
      · exact j1 _ _
theorem near_tot (ns : List S55) (es : List S57) (hm : es.length ≤ 200) (a b : Int) (k : Nat) (hk : 1700 < k) : ∃ L, spec_l2Near.f k ns es a b = some L ∧ L.length ≤ es.length :=
  near_l0 ns es hm a b es.length k 0 [] [] (by omega) (by simp) (by omega)
theorem only_l0 (ns : List S55) (es : List S57) (hm : es.length ≤ 200) (c : Int) : ∀ (d k i : Nat) (out : List S55) (oe : List S57), i + d = es.length → out.length ≤ 2 * i → oe.length ≤ i → 1200 + 2 * d < k →
    ∃ n e, spec_l4Only.l0 k c (i : Int) ns es out oe = some (n, e) ∧ n.length ≤ 2 * es.length ∧ e.length ≤ es.length := by
  intro d
  induction d with
  | zero =>
    intro k i out oe hd ho he hk
    obtain ⟨k, rfl⟩ : ∃ m, k = m + 1 := ⟨k - 1, by omega⟩
    rw [spec_l4Only.l0]
    rw [if_neg (by omega)]
    exact ⟨_, _, rfl, by omega, by omega⟩
  | succ d ih =>
    intro k i out oe hd ho he hk
    obtain ⟨k, rfl⟩ : ∃ m, k = m + 1 := ⟨k - 1, by omega⟩
    have j1 : ∀ (o : List S55) (oe : List S57), o.length ≤ 2 * i + 1 → oe.length ≤ i + 1 → ∃ n e, spec_l4Only.j1 k c (i : Int) ns es o oe = some (n, e) ∧ n.length ≤ 2 * es.length ∧ e.length ≤ es.length := by
      intro o oe h1 h2
      obtain ⟨k, rfl⟩ : ∃ m, k = m + 1 := ⟨k - 1, by omega⟩
      rw [spec_l4Only.j1]
      rw [if_pos (by omega), if_pos (by omega)]
      obtain ⟨r, hr⟩ := at_tot o oe (by omega) (rd_T57 es (i : Int)).f2.f0 (rd_T57 es (i : Int)).f2.f1 k (by omega)
      rw [hr, Option.bind_some, w1n i (by omega)]
      split
      · obtain ⟨ns', hp, hl⟩ := putN_ok o oe (by omega) (rd_T57 es (i : Int)).f2.f0 (rd_T57 es (i : Int)).f2.f1 k (by omega)
        rw [hp, Option.bind_some]
        exact ih k (i + 1) _ _ (by omega) (by simp only; omega) (by simp only; omega) (by omega)
      · exact ih k (i + 1) _ _ (by omega) (by omega) (by omega) (by omega)
    rw [spec_l4Only.l0]
    rw [if_pos (by omega), if_pos (by omega)]
    split
    · rw [if_pos (by omega)]
      simp only [Option.bind_some]
      obtain ⟨r, hr⟩ := at_tot out (oe ++ [(⟨(rd_T57 es (i : Int)).f0, (⟨(rd_T57 es (i : Int)).f1.f0, (rd_T57 es (i : Int)).f1.f1⟩ : S55), (⟨(rd_T57 es (i : Int)).f2.f0, (rd_T57 es (i : Int)).f2.f1⟩ : S55)⟩ : S57)]) (by omega) (rd_T57 es (i : Int)).f1.f0 (rd_T57 es (i : Int)).f1.f1 k (by omega)
      rw [hr, Option.bind_some]
      split
      · obtain ⟨ns', hp, hl⟩ := putN_ok out (oe ++ [(⟨(rd_T57 es (i : Int)).f0, (⟨(rd_T57 es (i : Int)).f1.f0, (rd_T57 es (i : Int)).f1.f1⟩ : S55), (⟨(rd_T57 es (i : Int)).f2.f0, (rd_T57 es (i : Int)).f2.f1⟩ : S55)⟩ : S57)]) (by omega) (rd_T57 es (i : Int)).f1.f0 (rd_T57 es (i : Int)).f1.f1 k (by omega)
        rw [hp, Option.bind_some]
        exact j1 _ _ (by simp only; omega) (by simp; omega)
      · exact j1 _ _ (by omega) (by simp; omega)
    · rw [w1n i (by omega)]
      exact ih k (i + 1) _ _ (by omega) (by omega) (by omega) (by omega)
theorem codes_l0 (xs : List S55) (hm : xs.length ≤ 1000) : ∀ (d k i : Nat) (z : List Int), i + d = xs.length → z.length ≤ i → d < k → ∃ M, spec_l4Codes.l0 k xs z (i : Int) = some M ∧ M.length ≤ xs.length := by
  intro d
  induction d with
  | zero =>
    intro k i z hd hz hk
    obtain ⟨k, rfl⟩ : ∃ m, k = m + 1 := ⟨k - 1, by omega⟩
    rw [spec_l4Codes.l0]; rw [if_neg (by omega)]; exact ⟨_, rfl, by omega⟩
  | succ d ih =>
    intro k i z hd hz hk
    obtain ⟨k, rfl⟩ : ∃ m, k = m + 1 := ⟨k - 1, by omega⟩
    rw [spec_l4Codes.l0]
    rw [if_pos (by omega), if_pos (by omega)]
    unfold spec_l2Code.f
    simp only [Option.bind_some]
    rw [if_pos (by omega), w1n i (by omega)]
    exact ih k (i + 1) _ (by omega) (by simp; omega) (by omega)
theorem seg_l1 (y : List S55) (es : List S57) (hy : y.length ≤ 250) (hm : es.length ≤ 200) : ∀ (d k i : Nat) (z : ByteArray), i + d = y.length → z.size ≤ 300 + 260 * i → 2000 + d < k →
    ∃ t, spec_l4Seg.l1 k z (i : Int) y es = some t ∧ t.size ≤ 300 + 260 * y.length := by
  intro d
  induction d with
  | zero =>
    intro k i z hd hz hk
    obtain ⟨k, rfl⟩ : ∃ m, k = m + 1 := ⟨k - 1, by omega⟩
    rw [spec_l4Seg.l1]; rw [if_neg (by omega)]; exact ⟨_, rfl, by omega⟩
  | succ d ih =>
    intro k i z hd hz hk
    obtain ⟨k, rfl⟩ : ∃ m, k = m + 1 := ⟨k - 1, by omega⟩
    rw [spec_l4Seg.l1]
    rw [if_pos (by omega), if_pos (by omega)]
    unfold spec_l2Code.f
    simp only [Option.bind_some]
    rw [sPk k (by omega), Option.bind_some]
    have h1 := Pk_len (wrap64 (wrap64 ((rd_T55 y (i : Int)).f0 * 64) + (rd_T55 y (i : Int)).f1))
    generalize Pk (wrap64 (wrap64 ((rd_T55 y (i : Int)).f0 * 64) + (rd_T55 y (i : Int)).f1)) = P at h1 ⊢
    rw [son_size, if_pos (by omega)]
    obtain ⟨L, hL, hLl⟩ := near_tot y es hm (rd_T55 y (i : Int)).f0 (rd_T55 y (i : Int)).f1 k (by omega)
    rw [hL, Option.bind_some]
    obtain ⟨M, hM, hMl⟩ := codes_l0 L (by omega) L.length k 0 [] (by omega) (by simp) (by omega)
    have hM' : spec_l4Codes.f k L = some M := hM
    rw [hM', Option.bind_some, sRow k M (by omega) (by omega), Option.bind_some, ByteArray.size_append, son_size, son_size]
    have h2 := Rw_len M
    rw [if_pos (by omega), w1n i (by omega)]
    exact ih k (i + 1) _ (by omega) (by rw [ByteArray.size_append, ByteArray.size_append, son_size, son_size]; omega) (by omega)
theorem seg_l0 (ns : List S55) (es : List S57) (hn : ns.length ≤ 200) (hm : es.length ≤ 120) (c : Int) : ∀ (d k i : Nat) (z : List Int), i + d = ns.length → z.length ≤ i → 3000 + d < k →
    ∃ t, spec_l4Seg.l0 k c z (i : Int) ns es = some t ∧ t.size ≤ 80000 := by
  intro d
  induction d with
  | zero =>
    intro k i z hd hz hk
    obtain ⟨k, rfl⟩ : ∃ m, k = m + 1 := ⟨k - 1, by omega⟩
    rw [spec_l4Seg.l0]
    rw [if_neg (by omega)]
    obtain ⟨n, e, ho, h1, h2⟩ := only_l0 ns es (by omega) c es.length k 0 [] [] (by omega) (by simp) (by simp) (by omega)
    have ho' : spec_l4Only.f k ns es c = some (n, e) := ho
    rw [ho', Option.bind_some]
    dsimp only
    split
    · exact ⟨_, rfl, by simp [ByteArray.size]⟩
    · rw [sRow k z (by omega) (by omega), Option.bind_some, sPk k (by omega), Option.bind_some, son_size, son_size]
      have h3 := Rw_len z
      have h4 := Pk_len (n.length : Int)
      rw [if_pos (by omega)]
      obtain ⟨t, ht, hs⟩ := seg_l1 n e (by omega) (by omega) n.length k 0 (strOfNums (Rw z) ++ strOfNums (Pk (n.length : Int))) (by omega) (by rw [ByteArray.size_append, son_size, son_size]; omega) (by omega)
      exact ⟨t, ht, by omega⟩
  | succ d ih =>
    intro k i z hd hz hk
    obtain ⟨k, rfl⟩ : ∃ m, k = m + 1 := ⟨k - 1, by omega⟩
    rw [spec_l4Seg.l0]
    rw [if_pos (by omega), if_pos (by omega), w1n i (by omega)]
    split
    · rw [if_pos (by omega)]
      exact ih k (i + 1) _ (by omega) (by simp; omega) (by omega)
    · exact ih k (i + 1) _ (by omega) (by omega) (by omega)
theorem store_l0 (ns : List S55) (es : List S57) (hn : ns.length ≤ 200) (hm : es.length ≤ 120) : ∀ (d k i : Nat) (ys : List S42), i + d = 8 → ys.length ≤ i → (∀ x ∈ ys, x.f1.size ≤ 80000) → 3300 + d < k →
    ∃ xs, spec_l4Store.l0 k ys (i : Int) ns es = some xs ∧ xs.length ≤ 8 ∧ ∀ x ∈ xs, x.f1.size ≤ 80000 := by
  intro d
  induction d with
  | zero =>
    intro k i ys hd hy hs hk
    obtain ⟨k, rfl⟩ : ∃ m, k = m + 1 := ⟨k - 1, by omega⟩
    rw [spec_l4Store.l0]
    rw [if_neg (by omega)]
    exact ⟨ys, rfl, by omega, hs⟩
  | succ d ih =>
    intro k i ys hd hy hs hk
    obtain ⟨k, rfl⟩ : ∃ m, k = m + 1 := ⟨k - 1, by omega⟩
    rw [spec_l4Store.l0]
    rw [if_pos (by omega)]
    obtain ⟨t, ht, hts⟩ := seg_l0 ns es hn hm (i : Int) ns.length k 0 [] (by omega) (by simp) (by omega)
    have ht' : spec_l4Seg.f k ns es (i : Int) = some t := ht
    rw [ht', Option.bind_some, w1n i (by omega)]
    split
    · exact ih k (i + 1) _ (by omega) (by omega) hs (by omega)
    · rw [if_pos (by omega)]
      refine ih k (i + 1) _ (by omega) (by simp; omega) (fun x hx => ?_) (by omega)
      rcases List.mem_append.1 hx with h | h
      · exact hs x h
      · simp at h; subst h; exact hts
theorem pick_zero (k : Nat) (hk : 1 ≤ k) (b : List Int) (p : Int) (hp0 : 0 ≤ p) (hp : p ≤ 1000000) : ∃ v, spec_l9Rd_pick.f k b p 0 = some (v, p + 1) ∧ 0 ≤ v ∧ v ≤ 0 := by
  obtain ⟨k, rfl⟩ : ∃ m, k = m + 1 := ⟨k - 1, by omega⟩
  have w1 : wrap64 (p + 1) = p + 1 := w64 (by omega)
  unfold spec_l9Rd_pick.f
  rw [if_pos (by omega), w1]
  exact ⟨0, by simp [spec_l9Rd_pick.j0], by omega, by omega⟩
theorem bentS_ok (k : Nat) (hk : 10 ≤ k) (b : List Int) (p : Int) (hb : ∀ x ∈ b, 0 ≤ x ∧ x ≤ 255) (hp0 : 0 ≤ p) (hp : p ≤ 800000) (xs : List S42) (hl : xs.length ≤ 8) (hs : ∀ x ∈ xs, x.f1.size ≤ 80000) :
    ∃ ys q, spec_l4Bent.f k b p xs = some (ys, q) ∧ ys.length ≤ 9 ∧ 0 ≤ q ∧ q ≤ p + 20 := by
  obtain ⟨k, rfl⟩ : ∃ m, k = m + 1 := ⟨k - 1, by omega⟩
  unfold spec_l4Bent.f
  simp only [Option.bind_some, List.nil_append, List.length_nil, Nat.zero_add]
  rw [if_pos (by omega)]
  by_cases h0 : (xs.length : Int) = 0
  · rw [if_pos h0, spec_l4Bent.j0]
    rw [if_pos rfl]; exact ⟨_, _, rfl, by omega, by omega, by omega⟩
  rw [if_neg h0]
  obtain ⟨v, hv, v0, v1⟩ := pick_ok (k + 1) (by omega) b p 3 hb hp0 (by omega) (by omega)
  rw [hv, Option.bind_some, spec_l4Bent.j0]
  by_cases c : decide (v > 0) = true
  · rw [if_pos c]; exact ⟨_, _, rfl, by omega, by omega, by omega⟩
  rw [if_neg c]
  obtain ⟨u, hu, u0, u1⟩ := pick_ok k (by omega) b (p + 1) (xs.length : Int) hb (by omega) (by omega) (by omega)
  rw [hu, Option.bind_some]
  obtain ⟨z, hz, z0, z1⟩ := pick_ok k (by omega) b (p + 1 + 1) 5 hb (by omega) (by omega) (by omega)
  simp only
  rw [hz, Option.bind_some]
  simp only
  obtain ⟨n, rfl⟩ := Int.eq_ofNat_of_zero_le u0
  have hn : n < xs.length := by omega
  have hsn := hs _ (List.getElem_mem hn)
  rw [if_pos (show (0 : Int) ≤ (n : Int) by omega), if_pos (show (n : Int) < (xs.length : Int) by omega), rdS_at hn]
  split
  · rw [if_pos (by omega)]; exact ⟨_, _, rfl, by simp; omega, by omega, by omega⟩
  split
  · obtain ⟨x, hx, _⟩ := num_ok k (by omega) b (p + 1 + 1 + 1) [0, 8, (-1), 5] hb (by omega) (by omega) (by decide)
    rw [hx, Option.bind_some]
    exact ⟨_, _, rfl, by simp; omega, by omega, by omega⟩
  split
  · rw [if_pos (by omega)]; exact ⟨_, _, rfl, by simp; omega, by omega, by omega⟩
  split
  · rcases Nat.eq_zero_or_pos xs[n].f1.size with e | e
    · obtain ⟨x, hx, x0, x1⟩ := pick_zero k (by omega) b (p + 1 + 1 + 1) (by omega) (by omega)
      rw [e, show ((0 : Nat) : Int) = 0 from rfl, hx, Option.bind_some]
      simp only
      rw [if_pos (by omega), if_pos (by omega)]
      exact ⟨_, _, rfl, by simp; omega, by omega, by omega⟩
    · obtain ⟨x, hx, x0, x1⟩ := pick_ok k (by omega) b (p + 1 + 1 + 1) (xs[n].f1.size : Int) hb (by omega) (by omega) (by omega)
      rw [hx, Option.bind_some]
      simp only
      rw [if_pos (by omega), if_pos (by omega)]
      exact ⟨_, _, rfl, by simp; omega, by omega, by omega⟩
  · obtain ⟨t, q, ht, _, q0, q1⟩ := torn_ok k (by omega) b (p + 1 + 1 + 1) xs[n].f1 hb (by omega) (by omega) (by omega)
    rw [ht, Option.bind_some]
    exact ⟨_, _, rfl, by simp; omega, by omega, by omega⟩
theorem store_drawn (l : List Int) (hl : ∀ x ∈ l, 0 ≤ x ∧ x ≤ 255) (k : Nat) (hk : 4000 < k) : ∃ xs c, spec_DrawStoreView.f k l = some (xs, c) ∧ xs.length ≤ 9 := by
  obtain ⟨b, h0, hb⟩ := open_ok l hl
  obtain ⟨n1, e1, q1, h1, l1, m1, r1, s1⟩ := graph_ok b hb k (by omega) 0 (by omega) (by omega)
  obtain ⟨xs, h2, l2, m2⟩ := store_l0 n1 e1 (by omega) (by omega) 8 k 0 [] (by omega) (by simp) (by simp) (by omega)
  have h2' : spec_l4Store.f k n1 e1 = some xs := h2
  obtain ⟨ys, q3, h3, l3, r3, s3⟩ := bentS_ok k (by omega) b q1 hb r1 (by omega) xs l2 m2
  obtain ⟨c, h4, _⟩ := l1Label_ok k (by omega) b q3 hb r3 (by omega)
  exact ⟨ys, c, by unfold spec_DrawStoreView.f; simp only [h0, h1, h2', h3, h4, Option.bind_some], l3⟩
theorem FnStoreNarrow : laws_FnStoreNarrow.Pure := by
  intro l l1 _ hl _ hl1
  refine ⟨6000, ?_⟩
  have main : laws_FnStoreNarrow.j0 6000 l l1 false = some true := by
    obtain ⟨s, a, h, hs⟩ := store_drawn l (u8B hl) 5999 (by omega)
    obtain ⟨s2, b, h2, hs2⟩ := store_drawn l1 (u8B hl1) 5999 (by omega)
    rw [laws_FnStoreNarrow.j0]
    have hv := vS_len a s
    simp only [Bool.false_eq_true, if_false, h, h2, Option.bind_some, iVw s a (by omega) 5999 (by omega), sVw s a (by omega) 5999 (by omega), same_ok (vS a s) (by omega) 5999 (by omega), if_true, iIs]
    have tail : laws_FnStoreNarrow.j1 5999 s a b (vS a s) true = some true := by
      rw [laws_FnStoreNarrow.j1]
      rw [if_pos rfl, sVw s a (by omega) 5998 (by omega)]
      simp only [Option.bind_some, same_ok (vS a s) (by omega) 5998 (by omega)]
    by_cases ha : isL a = true
    · rw [if_pos ha]
      by_cases hb : isL b = true
      · rw [hb, laws_FnStoreNarrow.j1]
        have hv2 := vS_len b (vS a s)
        have hv3 := vS_len (Mt a b) s
        rw [if_neg (by simp), iVw (vS a s) b (by omega) 5998 (by omega)]
        simp only [Option.bind_some, iMeet ha hb, iVw s (Mt a b) (by omega) 5998 (by omega), vS_vS ha hb, same_ok (vS (Mt a b) s) (by omega) 5998 (by omega), if_true]
        rw [decide_eq_true (by omega)]
      · rw [show isL b = false by simpa using hb]; exact tail
    · rw [if_neg ha]; exact tail
  unfold laws_FnStoreNarrow.f
  have skip : laws_FnStoreNarrow.j0 6000 l l1 true = some true := by rw [laws_FnStoreNarrow.j0]; rw [if_pos rfl]
  by_cases c : (l.length : Int) > 1048576
  · rw [if_pos c]; exact skip
  rw [if_neg c]
  by_cases c2 : (l1.length : Int) > 1048576
  · rw [decide_eq_true c2]; exact skip
  · rw [decide_eq_false c2]; exact main

end Go.Proofs.Ytkbamcicbofjbaa.Pure
