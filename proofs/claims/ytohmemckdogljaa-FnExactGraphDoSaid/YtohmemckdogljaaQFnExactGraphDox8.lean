/- Contracts of the Go functions that this law reaches: each does what its plain Lean function says. No condition. -/
import Derived.Test.YtohmemckdogljaaQFnExactGraphDox0
import Derived.Test.YtohmemckdogljaaQFnExactGraphDox1
import Derived.Test.YtohmemckdogljaaQFnExactGraphDox2
import Derived.Test.YtohmemckdogljaaQFnExactGraphDox5
namespace Go.Proofs.Ytohmemckdogljaa.QFnExactGraphDo
open Go.RowKit Go.Proofs.YtohmemckdogljaaW.PrintWords Go.Proofs.YtohmemckdogljaaW.PrintLast Go.Proofs.YtohmemckdogljaaW.PrintMore Go.Proofs.Ytohmemckdogljaa.Bl
attribute [local go_sem] max2_int min2_int max_two min_two max_three min_three max_four min_four   -- for this text's walks alone
set_option linter.unusedVariables false
set_option linter.unusedSimpArgs false
set_option maxHeartbeats 8000000
set_option maxRecDepth 100000

attribute [local go_sem high] eqA36 eqA56
/-! ### spec_OpLabel: function 44 -/
mutual
def spec_OpLabel.j0 : Nat → Int → Bool → Int → Int → Int → Int → Int → Int → Int → Int → Option (Int)
 | 0, _, _, _, _, _, _, _, _, _, _ => none
 | k + 1, y, O, M, s, z, D, G, I, J, L => if O = true then ((spec_NodeOk.f s z).bind fun T => (if T = true then (if (D == 0 && ((G == 0 && (I == 0)) && ((J == 0 && (L == 0))))) = true then (some s) else (some (-1))) else (some (-1)))) else (if y = 2 then (spec_OpLabel.j1 k (y == 2) M s z D G I J L) else (spec_OpLabel.j1 k (y == 3) M s z D G I J L))
def spec_OpLabel.j1 : Nat → Bool → Int → Int → Int → Int → Int → Int → Int → Int → Option (Int)
 | 0, _, _, _, _, _, _, _, _, _ => none
 | k + 1, y, O, z, D, s, G, I, J, L => if y = true then ((spec_EdgeOk.f s G I J L).bind fun M => (if M = true then (if (z == 0 && (D == 0)) = true then (some s) else (some (-1))) else (some (-1)))) else (some (-1))
end
def spec_OpLabel.f (k : Nat) (s : Int) (y : Int) (z : Int) (D : Int) (G : Int) (I : Int) (J : Int) (L : Int) : Option (Int) := if s = 1 then (spec_OpLabel.j0 k s (s == 1) s y z D G I J L) else (spec_OpLabel.j0 k s (s == 4) s y z D G I J L)
theorem spec_OpLabel.calls (k : Nat) (G : Int) (z : Int) (I : Int) (D : Int) (J : Int) (L : Int) (M : Int) (O : Int) (r : Int) (w : World) (h : spec_OpLabel.f k G z I D J L M O = some r) :
  Calls Try.prog 44 #[.agg #[.int .i64 G, .int .i64 z, .int .i64 I, .int .i64 D, .int .i64 J, .int .i64 L, .int .i64 M, .int .i64 O]] w fun e w' => e = .returned (.int .i64 r) ∧ Below w.heap.size w w' := by
 have hu58 := Try.underlying58
 have hu36 := Try.underlying36
 have hu56 := Try.underlying56
 have HB := am (Below.refl w.heap.size w)
 have H := h; unfold spec_OpLabel.f at H
 clear h
 have ag := am H
 clear H
 go_enter Try.func44, Try.ntmps44
 go_upto_if 5 with (first | ((with_reducible refine gd 1 rfl ?_); refine bx 1 (cs := #[.int .i64 G, .int .i64 z, .int .i64 I, .int .i64 D, .int .i64 J, .int .i64 L, .int .i64 M, .int .i64 O]) (t := 58) ?_; intro ao hg w3 hbox hb; have y := am hbox; have bU := gwb HB hg; replace HB := hs HB hb; clear hb hbox hg; obtain ⟨ap, aq, ar, au, av, aw, ax, ay⟩ := bc8 (w := w3) y.out; have az := blk_frozen y.out))
 (try simp only [Act.put, List.setIfInBounds_toArray, List.set_cons_zero, List.set_cons_succ])
 go_cut [5] (fun v5 wc => ∃ (kq : Nat) (ac : Bool), v5 = .bool ac ∧ Aside0 (spec_OpLabel.j0 kq G ac G z I D J L M O = some r) ∧ Aside0 (kq ≤ k) ∧ Aside0 (wc.heap[ao]? = some (.cells #[.int .i64 G, .int .i64 z, .int .i64 I, .int .i64 D, .int .i64 J, .int .i64 L, .int .i64 M, .int .i64 O] 58 (0, 0))) ∧ Aside0 (Below w.heap.size w wc))
 case first =>
  have H := ag.out
  clear ag
  by_cases Y : G = 1
  ·rw [if_pos Y] at H
   have aa : (G == 1) = true := beq_iff_eq.mpr Y
   have ah : (G != 1) = false := bne_eq_false_iff_eq.mpr Y
   clear Y
   (first | rw [aa] | (simp only [i64_w, i32_w]; rw [aa]) | skip)
   have H' := am H
   clear H
   go_wp2
   go_meet
   case rel => exact ⟨_, ((G == 1)), eqs, H', ⟨by first | omega | exact Nat.le_refl _⟩, ⟨bf y.out⟩, ⟨bs HB.out⟩⟩
  ·rw [if_neg Y] at H
   have aa : (G == 1) = false := beq_eq_false_iff_ne.mpr Y
   have ah : (G != 1) = true := bne_iff_ne.mpr Y
   (first | rw [aa] | (simp only [i64_w, i32_w]; rw [aa]) | skip)
   have H' := am H
   clear H
   go_wp2
   go_meet
   case rel => exact ⟨_, ((G == 4)), eqs, H', ⟨by first | omega | exact Nat.le_refl _⟩, ⟨bf y.out⟩, ⟨bs HB.out⟩⟩
 case rest =>
  clear ag
  try clear p2
  try clear c4
  try clear Y
  try clear aa
  try clear ah
  try clear ap aq ar au av aw ax ay
  try clear az
  obtain ⟨kq, ac, rfl, HA, aA, y, HB⟩ := hcut
  cases kq with
  | zero => exact absurd HA.out (by simp [spec_OpLabel.j0])
  | succ ai =>
   have H := HA.out
   clear HA
   simp only [spec_OpLabel.j0] at H
   by_cases c6 : ac = true
   ·subst c6
    replace H : ((spec_NodeOk.f z I).bind fun aj => (if aj = true then (if (D == 0 && ((J == 0 && (L == 0)) && ((M == 0 && (O == 0))))) = true then (some z) else (some (-1))) else (some (-1)))) = some r := by rw [if_pos rfl] at H; exact H
    replace H := Option.bind_eq_some_iff.mp H
    obtain ⟨aj, aC, H⟩ := H
    try dsimp -simprocs only at H
    have A7 := am aC
    clear aC
    by_cases c8 : aj = true
    ·subst c8
     replace H : (if (D == 0 && ((J == 0 && (L == 0)) && ((M == 0 && (O == 0))))) = true then (some z) else (some (-1))) = some r := by rw [if_pos rfl] at H; exact H
     by_cases T : (D == 0 && ((J == 0 && (L == 0)) && ((M == 0 && (O == 0))))) = true
     ·rw [if_pos T] at H
      have aD : (D == 0 && ((J == 0 && (L == 0)) && ((M == 0 && (O == 0))))) = true := T
      (try (have aE : decide (D = 0 && ((J == 0 && (L == 0)) && ((M == 0 && (O == 0))))) = true := by simpa using T))
      (try (have aG : (D == 0 && ((J == 0 && (L == 0)) && ((M == 0 && (O == 0))))) = true := by simpa using T))
      clear T
      obtain rfl := Option.some.inj H
      obtain ⟨aJ, aK, aM, aN, aP, aQ, aT, aU⟩ := bc8 (w := wc) y.out
      have aV := blk_frozen y.out
      go_wp2_with (first | ((with_reducible refine gc 75 rfl ?_); refine gl 10 Try.func75 #[.agg #[.int .i64 z, .int .i64 I]] ?_; (with_reducible refine (spec_NodeOk.calls z I true _ A7.out).mono ?_); rintro e aW ⟨rfl, hb⟩; refine ⟨_, rfl, ?_⟩; replace y := bb y hb rfl; replace HB := hs HB hb; (try clear hb); obtain ⟨aX, aY, aZ, a8, a9, ba, bc, be⟩ := bc8 (w := aW) y.out; have bg := blk_frozen y.out))
      go_ret
      exact ⟨eqr, bs HB.out⟩
     ·rw [if_neg T] at H
      have aD : (D == 0 && ((J == 0 && (L == 0)) && ((M == 0 && (O == 0))))) = false := by simpa using T
      (try (have aE : decide (D = 0 && ((J == 0 && (L == 0)) && ((M == 0 && (O == 0))))) = false := by simpa using T))
      (try (have aG : (D == 0 && ((J == 0 && (L == 0)) && ((M == 0 && (O == 0))))) = false := by simpa using T))
      (try (have bV : ¬ (D = 0 && ((J == 0 && (L == 0)) && ((M == 0 && (O == 0))))) := by simpa using T))
      clear T
      obtain rfl := Option.some.inj H
      obtain ⟨bh, bi, bj, bk, bl, bm, bn, bo⟩ := bc8 (w := wc) y.out
      have br := blk_frozen y.out
      go_wp2_with (first | ((with_reducible refine gc 75 rfl ?_); refine gl 10 Try.func75 #[.agg #[.int .i64 z, .int .i64 I]] ?_; (with_reducible refine (spec_NodeOk.calls z I true _ A7.out).mono ?_); rintro e bt ⟨rfl, hb⟩; refine ⟨_, rfl, ?_⟩; replace y := bb y hb rfl; replace HB := hs HB hb; (try clear hb); obtain ⟨bu, bv, bw, bz, bA, bB, bC, bD⟩ := bc8 (w := bt) y.out; have bE := blk_frozen y.out))
      go_ret
      exact ⟨eqr, bs HB.out⟩
    ·replace c8 := Bool.eq_false_iff.mpr c8
     subst c8
     have H1 : (some (-1)) = some r := by rw [if_neg (show ¬ (false = true) by decide)] at H; exact H
     clear H
     have H := H1
     clear H1
     obtain rfl := Option.some.inj H
     obtain ⟨bF, bG, bH, bI, bJ, bK, bL, bM⟩ := bc8 (w := wc) y.out
     have bN := blk_frozen y.out
     go_wp2_with (first | ((with_reducible refine gc 75 rfl ?_); refine gl 10 Try.func75 #[.agg #[.int .i64 z, .int .i64 I]] ?_; (with_reducible refine (spec_NodeOk.calls z I false _ A7.out).mono ?_); rintro e bW ⟨rfl, hb⟩; refine ⟨_, rfl, ?_⟩; replace y := bb y hb rfl; replace HB := hs HB hb; (try clear hb)))
     go_ret
     exact ⟨eqr, bs HB.out⟩
   ·replace c6 := Bool.eq_false_iff.mpr c6
    subst c6
    have H1 : (if G = 2 then (spec_OpLabel.j1 ai (G == 2) G z I D J L M O) else (spec_OpLabel.j1 ai (G == 3) G z I D J L M O)) = some r := by rw [if_neg (show ¬ (false = true) by decide)] at H; exact H
    clear H
    have H := H1
    clear H1
    have ak := am H
    clear H
    go_upto_if 20 with (fail)
    go_cut [20] (fun bO wc => ∃ (kq : Nat) (ad : Bool), bO = .bool ad ∧ Aside0 (spec_OpLabel.j1 kq ad G z I D J L M O = some r) ∧ Aside0 (kq ≤ ai) ∧ Aside0 (wc.heap[ao]? = some (.cells #[.int .i64 G, .int .i64 z, .int .i64 I, .int .i64 D, .int .i64 J, .int .i64 L, .int .i64 M, .int .i64 O] 58 (0, 0))) ∧ Aside0 (Below w.heap.size w wc))
    case first =>
     have H := ak.out
     clear ak
     by_cases Z : G = 2
     ·rw [if_pos Z] at H
      have ab : (G == 2) = true := beq_iff_eq.mpr Z
      have aH : (G != 2) = false := bne_eq_false_iff_eq.mpr Z
      clear Z
      (first | rw [ab] | (simp only [i64_w, i32_w]; rw [ab]) | skip)
      have H' := am H
      clear H
      go_wp2
      go_meet
      case rel => exact ⟨_, ((G == 2)), eqs, H', ⟨by have := aA.out; first | omega | exact Nat.le_refl _⟩, ⟨bf y.out⟩, ⟨bs HB.out⟩⟩
     ·rw [if_neg Z] at H
      have ab : (G == 2) = false := beq_eq_false_iff_ne.mpr Z
      have aH : (G != 2) = true := bne_iff_ne.mpr Z
      (first | rw [ab] | (simp only [i64_w, i32_w]; rw [ab]) | skip)
      have H' := am H
      clear H
      go_wp2
      go_meet
      case rel => exact ⟨_, ((G == 3)), eqs, H', ⟨by have := aA.out; first | omega | exact Nat.le_refl _⟩, ⟨bf y.out⟩, ⟨bs HB.out⟩⟩
    case rest =>
     clear ak
     try clear c1
     try clear p2
     try clear c4
     try clear Y
     try clear aa
     try clear ah
     try clear c6
     try clear c7
     try clear c8
     try clear T
     try clear aD
     try clear aE
     try clear aG
     try clear Z
     try clear ab
     try clear aH
     try clear aJ aK aM aN aP aQ aT aU
     try clear aX aY aZ a8 a9 ba bc be
     try clear bh bi bj bk bl bm bn bo
     try clear bu bv bw bz bA bB bC bD
     try clear bF bG bH bI bJ bK bL bM
     try clear ap aq ar au av aw ax ay
     try clear aV
     try clear bg
     try clear br
     try clear bE
     try clear bN
     try clear az
     try clear p2
     obtain ⟨kq, ad, rfl, HA, bX, y, HB⟩ := hcut
     cases kq with
     | zero => exact absurd HA.out (by simp [spec_OpLabel.j1])
     | succ bY =>
      have H := HA.out
      clear HA
      simp only [spec_OpLabel.j1] at H
      by_cases ae : ad = true
      ·subst ae
       replace H : ((spec_EdgeOk.f D J L M O).bind fun al => (if al = true then (if (z == 0 && (I == 0)) = true then (some D) else (some (-1))) else (some (-1)))) = some r := by rw [if_pos rfl] at H; exact H
       replace H := Option.bind_eq_some_iff.mp H
       obtain ⟨al, aI, H⟩ := H
       try dsimp -simprocs only at H
       have an := am aI
       clear aI
       by_cases af : al = true
       ·subst af
        replace H : (if (z == 0 && (I == 0)) = true then (some D) else (some (-1))) = some r := by rw [if_pos rfl] at H; exact H
        by_cases X : (z == 0 && (I == 0)) = true
        ·rw [if_pos X] at H
         have bP : (z == 0 && (I == 0)) = true := X
         (try (have bQ : decide (z = 0 && (I == 0)) = true := by simpa using X))
         (try (have bR : (z == 0 && (I == 0)) = true := by simpa using X))
         clear X
         obtain rfl := Option.some.inj H
         obtain ⟨bZ, b0, b1, b2, b3, b4, b5, b6⟩ := bc8 (w := wc) y.out
         have b7 := blk_frozen y.out
         go_wp2_with (first | ((with_reducible refine gc 77 rfl ?_); refine gl 25 Try.func77 #[.agg #[.int .i64 D, .int .i64 J, .int .i64 L, .int .i64 M, .int .i64 O]] ?_; (with_reducible refine (spec_EdgeOk.calls D J L M O true _ an.out).mono ?_); rintro e bS ⟨rfl, hb⟩; refine ⟨_, rfl, ?_⟩; replace y := bb y hb rfl; replace HB := hs HB hb; (try clear hb); obtain ⟨b8, b9, ce, cf, cg, ch, ci, cj⟩ := bc8 (w := bS) y.out; have ck := blk_frozen y.out))
         go_ret
         exact ⟨eqr, bs HB.out⟩
        ·rw [if_neg X] at H
         have bP : (z == 0 && (I == 0)) = false := by simpa using X
         (try (have bQ : decide (z = 0 && (I == 0)) = false := by simpa using X))
         (try (have bR : (z == 0 && (I == 0)) = false := by simpa using X))
         (try (have cl : ¬ (z = 0 && (I == 0)) := by simpa using X))
         clear X
         obtain rfl := Option.some.inj H
         obtain ⟨cm, cn, co, cp, ct, cu, cv, cy⟩ := bc8 (w := wc) y.out
         have cz := blk_frozen y.out
         go_wp2_with (first | ((with_reducible refine gc 77 rfl ?_); refine gl 25 Try.func77 #[.agg #[.int .i64 D, .int .i64 J, .int .i64 L, .int .i64 M, .int .i64 O]] ?_; (with_reducible refine (spec_EdgeOk.calls D J L M O true _ an.out).mono ?_); rintro e bT ⟨rfl, hb⟩; refine ⟨_, rfl, ?_⟩; replace y := bb y hb rfl; replace HB := hs HB hb; (try clear hb); obtain ⟨cA, cB, cC, cD, cE, cF, cG, cH⟩ := bc8 (w := bT) y.out; have cI := blk_frozen y.out))
         go_ret
         exact ⟨eqr, bs HB.out⟩
       ·replace af := Bool.eq_false_iff.mpr af
        subst af
        have H1 : (some (-1)) = some r := by rw [if_neg (show ¬ (false = true) by decide)] at H; exact H
        clear H
        have H := H1
        clear H1
        obtain rfl := Option.some.inj H
        obtain ⟨cJ, cK, cL, cM, cN, cO, cP, cQ⟩ := bc8 (w := wc) y.out
        have cR := blk_frozen y.out
        go_wp2_with (first | ((with_reducible refine gc 77 rfl ?_); refine gl 25 Try.func77 #[.agg #[.int .i64 D, .int .i64 J, .int .i64 L, .int .i64 M, .int .i64 O]] ?_; (with_reducible refine (spec_EdgeOk.calls D J L M O false _ an.out).mono ?_); rintro e cS ⟨rfl, hb⟩; refine ⟨_, rfl, ?_⟩; replace y := bb y hb rfl; replace HB := hs HB hb; (try clear hb)))
        go_ret
        exact ⟨eqr, bs HB.out⟩
      ·replace ae := Bool.eq_false_iff.mpr ae
       subst ae
       have H1 : (some (-1)) = some r := by rw [if_neg (show ¬ (false = true) by decide)] at H; exact H
       clear H
       have H := H1
       clear H1
       obtain rfl := Option.some.inj H
       go_wp2
       go_ret
       exact ⟨eqr, bs HB.out⟩

/-! ### spec_l2Copy: function 97 -/
def spec_l2Copy.f (s : List (S36)) (y : List (S56)) : Option ((List (S36)) × (List (S56))) := (some (([] : List (S36)) : List (S36))).bind fun z => (if z.length + s.length < 8796093022208 then ((some (([] : List (S56)) : List (S56))).bind fun D => (if D.length + y.length < 3518437208883 then (some ((z ++ s), (D ++ y))) else (none))) else (none))
def spec_l2Copy.T1 : Bool × List (List Nat × List Nat) := (true, [([], []), ([], []), ([1], [1]), ([0, 2], [0, 2]), ([], []), ([], []), ([5], [5]), ([4, 6, 3], [4, 6]), ([3, 7], [3, 7]), ([8, 7, 0, 1, 2, 3, 4, 5, 6, 7, 8], [8])])
def spec_l2Copy.B1 : List Nat := [0, 0, 2, 7, 0, 0, 32, 127, 255, 511]
theorem spec_l2Copy.tab1 : rtab .any (opsOf Try.f97 1) = spec_l2Copy.T1 := by kernel_rfl
theorem spec_l2Copy.bits1 : waitsOk spec_l2Copy.T1.2 spec_l2Copy.B1 = true := by kernel_rfl
theorem spec_l2Copy.calls (Y : Option Addr) (Z : Nat) (D : List (S36)) (aa : Option Addr) (ab : Nat) (z : List (S56)) (r1 : List (S36)) (r2 : List (S56)) (w : World) (aD : Kd.C k36 w Y D.length D) (aE : D.length ≤ Z) (aG : Kd.C k56 w aa z.length z) (aH : z.length ≤ ab) (h : spec_l2Copy.f D z = some (r1, r2)) :
  Calls Try.prog 97 #[.agg #[.slice Y D.length Z, .slice aa z.length ab]] w fun e w' => ∃ aI aJ : Value, e = .returned (.agg #[aI, aJ]) ∧ Kd.R k36 36 w' w.heap.size (fun _ => True) aI r1 ∧ Kd.R k56 56 w' w.heap.size (fun _ => True) aJ r2 ∧ Below w.heap.size w w' := by
 have hu34 := Try.underlying34
 have aq := am aD
 have bn := am aE
 clear aD aE
 have be := am aG
 have bo := am aH
 clear aG aH
 have HB := am (Below.refl w.heap.size w)
 have H := h; unfold spec_l2Copy.f at H
 clear h
 obtain ⟨af, ar⟩ : ∃ y_ : List (S36), y_ = (([] : List (S36))) := ⟨_, rfl⟩
 replace H : (if af.length + D.length < 8796093022208 then ((some (([] : List (S56)) : List (S56))).bind fun J => (if J.length + z.length < 3518437208883 then (some ((af ++ D), (J ++ z))) else (none))) else (none)) = some (r1, r2) := by first | (rw [ar]; exact H) | exact H
 have ap := am ar
 clear ar
 by_cases c2 : af.length + D.length < 8796093022208
 ·rw [if_pos c2] at H
  have au := am c2
  clear c2
  obtain ⟨ai, av⟩ : ∃ y_ : List (S36), y_ = (af ++ D) := ⟨_, rfl⟩
  replace H : ((some (([] : List (S56)) : List (S56))).bind fun J => (if J.length + z.length < 3518437208883 then (some (ai, (J ++ z))) else (none))) = some (r1, r2) := by first | (rw [av]; exact H) | exact H
  have aw := am av
  clear av
  obtain ⟨J, ax⟩ : ∃ y_ : List (S56), y_ = (([] : List (S56))) := ⟨_, rfl⟩
  replace H : (if J.length + z.length < 3518437208883 then (some (ai, (J ++ z))) else (none)) = some (r1, r2) := by first | (rw [ax]; exact H) | exact H
  have aj := am ax
  clear ax
  by_cases c3 : J.length + z.length < 3518437208883
  ·rw [if_pos c3] at H
   have bg := am c3
   clear c3
   obtain ⟨aK, ay⟩ : ∃ y_ : List (S56), y_ = (J ++ z) := ⟨_, rfl⟩
   replace H : (some (ai, aK)) = some (r1, r2) := by first | (rw [ay]; exact H) | exact H
   have bh := am ay
   clear ay
   simp only [Option.some.injEq, Prod.mk.injEq] at H
   obtain ⟨rfl, rfl⟩ := H
   go_enter Try.func97, Try.ntmps97
   try go_wp2_with (first | ((with_reducible refine gd 1 rfl ?_); refine bx 1 (cs := #[.slice Y D.length Z, .slice aa z.length ab]) (t := 34) ?_; intro ac hg w4 hbox hb; have s := am hbox; have br := gwb HB hg; replace HB := hs HB hb; clear hb hbox hg) | ((with_reducible refine gd 2 rfl ?_); refine bx 2 (cs := #[.slice none 0 0, .slice none 0 0]) (t := 34) ?_; intro X hg w5 hbox hb; have y := am hbox; have bt := gwb HB hg; replace HB := hs HB hb; have ak := nq s hg; have aM := nq' s hg; replace s := bb s hb rfl; clear hb hbox hg))
   replace s := bd s
   replace y := bd y
   replace HB := hd HB
   refine sta 10 (fun w' => w'.cell? ⟨ac, 0, none⟩ = some (.slice Y D.length Z) ∧ w'.cell? ⟨ac, 1, none⟩ = some (.slice aa z.length ab)) [] ⟨cx s 0, cx s 1⟩ (fun hHeld => ?_); refine with_tabW spec_l2Copy.tab1 spec_l2Copy.bits1 (fun HT_ HW_ => ?_)
   generalize w5.drew = w6 at s y HB hHeld ⊢
   refine pu 1 4 ?_
   refine pu 5 8 ?_
   refine tk 2 5 ?_
   refine tk 6 9 ?_
   refine join_ (σ := Value × Value × Value) 3 #[true, true, true, true, true, true, true, false, false, false] (fun s_ => [(3, s_.1), (6, s_.2.1), (7, s_.2.2)]) (fun s_ w' => (w'.cell? ⟨ac, 0, none⟩ = some (.slice Y D.length Z) ∧ w'.cell? ⟨ac, 1, none⟩ = some (.slice aa z.length ab)) ∧ (Kd.R k36 36 w' w.heap.size (fun _ => True) s_.2.1 ai) ∧ (Kd.R k56 56 w' w.heap.size (fun _ => True) s_.2.2 J) ∧ (w'.heap[ac]? = some (.cells #[.slice Y D.length Z, .slice aa z.length ab] 34 (0, 0))) ∧ (w'.heap[X]? = some (.cells #[.slice none 0 0, .slice none 0 0] 34 (0, 0))) ∧ (Below w.heap.size w w')) ?_ ?_
   rotate_left
   ·intro hCont
    refine two_ (i := 0) (j := 4) (Ni := some 3) (Nj := some 7) #[true, true, true, false, false, true, true, false, false, false] #[false, true, true, false, true, true, true, false, false, false] rfl rfl rfl rfl (two_of HT_.out (by kernel_rfl)) (by decide) (by decide) (fun K hK => ?_) (fun K hK => ?_)
    ·skip
     refine Kd.R_lit_step k36 _ 36 ?hg (N := 3) ?hd (xs := ([] : List (S36))) (inner := []) (ok := fun _ => True) (okp := fun _ => True) ?hr ?hp (fun _ hk => hk) trivial (Below.refl _ _) (Nat.le_refl _) (by simp) ?_; (case hd => rfl); (case hg => rfl); (case hr => first | (go_simp; done) | (go_simp; rfl)); (case hp => exact (Reps.none _ _))
     intro ad w7 M hb hg_ hnew_
     clear hg_ hnew_
     (first | rw [← ap.out] at M | (simp only [Int.reduceToNat] at M; rw [← ap.out] at M))
     have G := am (Kd.R_lower M (below_size (bs HB.out)))
     replace s := bb s hb rfl
     replace y := bb y hb rfl
     replace HB := hs HB hb
     clear hb M
     refine hK.out _ _ ⟨cx s 0, cx s 1⟩ (fun hHeld => ?_)
     clear hK K
     refine nrm 3 ?_
     refine two_ (i := 3) (j := 4) (Ni := some 6) (Nj := some 7) #[true, true, true, true, false, true, true, false, false, false] #[true, true, true, false, true, true, true, false, false, false] rfl rfl rfl rfl (two_of HT_.out (by kernel_rfl)) (by decide) (by decide) (fun K hK => ?_) (fun K hK => ?_)
     ·skip
      refine Kd.R_append_rows_step k36 (w0 := w) w.heap.size (by rfl) (.tmp 3) (.tmp 5) 29 36 (.agg #[(.int .i64 0), (.int .i64 0)]) 16 rfl Try.underlying29 info36 rfl (by decide) (by omega) ad af D _ _ _ (fun _ => True) (fun _ => False) rfl rfl ?aO ?aR (fun _ _ h => h) (fun _ h => h.elim) ?aF ?aB ?aS ?aL ?_
      (case aR => exact Kd.C_below aq.out (bs HB.out))
      (case aB => exact (bs HB.out))
      (case aF => exact (fun _ _ => trivial))
      (case aO => exact (rl G.out))
      (case aS => exact (below_size (bs HB.out)))
      (case aL => have := au.out; omega)
      intro ag w9 ho hb hg hat
      rw [← aw.out] at ho
      replace s := gr s G hg
      replace y := gr y G hg
      replace HB := am hb
      have L := am ho
      clear G
      clear ho hb hg hat
      refine hK.out _ _ ⟨cx s 0, cx s 1⟩ (fun hHeld => ?_)
      clear hK K
      refine nrm 6 ?_
      refine on 4 7 (fun K hK => ?_)
      refine Kd.R_lit_step k56 _ 56 ?hg (N := 7) ?hd (xs := ([] : List (S56))) (inner := []) (ok := fun _ => True) (okp := fun _ => True) ?hr ?hp (fun _ hk => hk) trivial (Below.refl _ _) (Nat.le_refl _) (by simp) ?_; (case hd => rfl); (case hg => rfl); (case hr => first | (go_simp; done) | (go_simp; rfl)); (case hp => exact (Reps.none _ _))
      intro ae bu al hb hg_ hnew_
      clear hg_ hnew_
      (first | rw [← aj.out] at al | (simp only [Int.reduceToNat] at al; rw [← aj.out] at al))
      replace L := rb L hb
      have I := am (Kd.R_lower al (below_size (bs HB.out)))
      replace s := bb s hb rfl
      replace y := bb y hb rfl
      replace HB := hs HB hb
      clear hb al
      refine hK.out _ _ ⟨cx s 0, cx s 1⟩ (fun hHeld => ?_)
      clear hK K
      refine nrm 7 ?_
      exact norm_ (by simp only [putAll, Act.put, List.setIfInBounds_toArray, List.set_cons_zero, List.set_cons_succ]) (hCont (ad, ag, ae) _ ⟨hHeld, (rl L.out), (rl I.out), (bf s.out), (bf y.out), (bs HB.out)⟩)
     ·skip
      refine Kd.R_lit_step k56 _ 56 ?hg (N := 7) ?hd (xs := ([] : List (S56))) (inner := []) (ok := fun _ => True) (okp := fun _ => True) ?hr ?hp (fun _ hk => hk) trivial (Below.refl _ _) (Nat.le_refl _) (by simp) ?_; (case hd => rfl); (case hg => rfl); (case hr => first | (go_simp; done) | (go_simp; rfl)); (case hp => exact (Reps.none _ _))
      intro ae w9 O hb hg_ hnew_
      clear hg_ hnew_
      (first | rw [← aj.out] at O | (simp only [Int.reduceToNat] at O; rw [← aj.out] at O))
      replace G := rb G hb
      have I := am (Kd.R_lower O (below_size (bs HB.out)))
      replace s := bb s hb rfl
      replace y := bb y hb rfl
      replace HB := hs HB hb
      clear hb O
      refine hK.out _ _ ⟨cx s 0, cx s 1⟩ (fun hHeld => ?_)
      clear hK K
      refine nrm 7 ?_
      refine on 3 6 (fun K hK => ?_)
      refine Kd.R_append_rows_step k36 (w0 := w) w.heap.size (by rfl) (.tmp 3) (.tmp 5) 29 36 (.agg #[(.int .i64 0), (.int .i64 0)]) 16 rfl Try.underlying29 info36 rfl (by decide) (by omega) ad af D _ _ _ (fun _ => True) (fun _ => False) rfl rfl ?aO ?aR (fun _ _ h => h) (fun _ h => h.elim) ?aF ?aB ?aS ?aL ?_
      (case aR => exact Kd.C_below aq.out (bs HB.out))
      (case aB => exact (bs HB.out))
      (case aF => exact (fun _ _ => trivial))
      (case aO => exact (rl G.out))
      (case aS => exact (below_size (bs HB.out)))
      (case aL => have := au.out; omega)
      intro ag bi ho hb hg hat
      rw [← aw.out] at ho
      replace s := gr s G hg
      replace y := gr y G hg
      replace I := am (Kd.R_over' (rl I.out) (Kd.R_typed (rl G.out)) (by decide) hg)
      replace HB := am hb
      have L := am ho
      clear G
      clear ho hb hg hat
      refine hK.out _ _ ⟨cx s 0, cx s 1⟩ (fun hHeld => ?_)
      clear hK K
      refine nrm 6 ?_
      exact norm_ (by simp only [putAll, Act.put, List.setIfInBounds_toArray, List.set_cons_zero, List.set_cons_succ]) (hCont (ad, ag, ae) _ ⟨hHeld, (rl L.out), (rl I.out), (bf s.out), (bf y.out), (bs HB.out)⟩)
    ·skip
     refine Kd.R_lit_step k56 _ 56 ?hg (N := 7) ?hd (xs := ([] : List (S56))) (inner := []) (ok := fun _ => True) (okp := fun _ => True) ?hr ?hp (fun _ hk => hk) trivial (Below.refl _ _) (Nat.le_refl _) (by simp) ?_; (case hd => rfl); (case hg => rfl); (case hr => first | (go_simp; done) | (go_simp; rfl)); (case hp => exact (Reps.none _ _))
     intro ae w7 M hb hg_ hnew_
     clear hg_ hnew_
     (first | rw [← aj.out] at M | (simp only [Int.reduceToNat] at M; rw [← aj.out] at M))
     have I := am (Kd.R_lower M (below_size (bs HB.out)))
     replace s := bb s hb rfl
     replace y := bb y hb rfl
     replace HB := hs HB hb
     clear hb M
     refine hK.out _ _ ⟨cx s 0, cx s 1⟩ (fun hHeld => ?_)
     clear hK K
     refine nrm 7 ?_
     refine on 0 3 (fun K hK => ?_)
     refine Kd.R_lit_step k36 _ 36 ?hg (N := 3) ?hd (xs := ([] : List (S36))) (inner := []) (ok := fun _ => True) (okp := fun _ => True) ?hr ?hp (fun _ hk => hk) trivial (Below.refl _ _) (Nat.le_refl _) (by simp) ?_; (case hd => rfl); (case hg => rfl); (case hr => first | (go_simp; done) | (go_simp; rfl)); (case hp => exact (Reps.none _ _))
     intro ad w9 O hb hg_ hnew_
     clear hg_ hnew_
     (first | rw [← ap.out] at O | (simp only [Int.reduceToNat] at O; rw [← ap.out] at O))
     replace I := rb I hb
     have G := am (Kd.R_lower O (below_size (bs HB.out)))
     replace s := bb s hb rfl
     replace y := bb y hb rfl
     replace HB := hs HB hb
     clear hb O
     refine hK.out _ _ ⟨cx s 0, cx s 1⟩ (fun hHeld => ?_)
     clear hK K
     refine nrm 3 ?_
     refine on 3 6 (fun K hK => ?_)
     refine Kd.R_append_rows_step k36 (w0 := w) w.heap.size (by rfl) (.tmp 3) (.tmp 5) 29 36 (.agg #[(.int .i64 0), (.int .i64 0)]) 16 rfl Try.underlying29 info36 rfl (by decide) (by omega) ad af D _ _ _ (fun _ => True) (fun _ => False) rfl rfl ?aO ?aR (fun _ _ h => h) (fun _ h => h.elim) ?aF ?aB ?aS ?aL ?_
     (case aR => exact Kd.C_below aq.out (bs HB.out))
     (case aB => exact (bs HB.out))
     (case aF => exact (fun _ _ => trivial))
     (case aO => exact (rl G.out))
     (case aS => exact (below_size (bs HB.out)))
     (case aL => have := au.out; omega)
     intro ag bi ho hb hg hat
     rw [← aw.out] at ho
     replace s := gr s G hg
     replace y := gr y G hg
     replace I := am (Kd.R_over' (rl I.out) (Kd.R_typed (rl G.out)) (by decide) hg)
     replace HB := am hb
     have L := am ho
     clear G
     clear ho hb hg hat
     refine hK.out _ _ ⟨cx s 0, cx s 1⟩ (fun hHeld => ?_)
     clear hK K
     refine nrm 6 ?_
     exact norm_ (by simp only [putAll, Act.put, List.setIfInBounds_toArray, List.set_cons_zero, List.set_cons_succ]) (hCont (ad, ag, ae) _ ⟨hHeld, (rl L.out), (rl I.out), (bf s.out), (bf y.out), (bs HB.out)⟩)
   rintro ⟨ad, ag, ae⟩ ah ⟨hS_, aN, aP, aQ, aT, aU⟩
   have aV : Aside0 (Kd.R k36 36 ah w.heap.size (fun _ => True) ag ai) := ⟨aN⟩
   have aW : Aside0 (Kd.R k56 56 ah w.heap.size (fun _ => True) ae J) := ⟨aP⟩
   have aX : Aside0 (ah.heap[ac]? = some (.cells #[.slice Y D.length Z, .slice aa z.length ab] 34 (0, 0))) := ⟨aQ⟩
   have aY : Aside0 (ah.heap[X]? = some (.cells #[.slice none 0 0, .slice none 0 0] 34 (0, 0))) := ⟨aT⟩
   have aZ : Aside0 (Below w.heap.size w ah) := ⟨aU⟩
   clear s
   clear y
   clear HB
   clear aN aP aQ aT aU
   have L := aV
   have I := aW
   have s := aX
   have y := aY
   have HB := aZ
   clear aV aW aX aY aZ
   have hHeld : ah.cell? ⟨ac, 0, none⟩ = some (.slice Y D.length Z) ∧ ah.cell? ⟨ac, 1, none⟩ = some (.slice aa z.length ab) := hS_
   refine norm_ (a' := ?_) ?_ ?_
   rotate_left
   ·simp only [putAll, Act.put, List.setIfInBounds_toArray, List.set_cons_zero, List.set_cons_succ]
    rfl
   refine on 7 10 (fun K hK => ?_)
   refine Kd.R_append_rows_step k56 (w0 := w) w.heap.size (by rfl) (.tmp 7) (.tmp 9) 32 56 (.agg #[(.int .i64 0), (.int .i64 0), (.int .i64 0), (.int .i64 0), (.int .i64 0)]) 40 rfl Try.underlying32 info56 rfl (by decide) (by omega) ae J z _ _ _ (fun _ => True) (fun _ => False) rfl rfl ?aO ?aR (fun _ _ h => h) (fun _ h => h.elim) ?aF ?aB ?aS ?aL ?_
   (case aR => exact Kd.C_below be.out (bs HB.out))
   (case aB => exact (bs HB.out))
   (case aF => exact (fun _ _ => trivial))
   (case aO => exact (rl I.out))
   (case aS => exact (below_size (bs HB.out)))
   (case aL => have := bg.out; omega)
   intro bv a8 ho hb hg hat
   rw [← bh.out] at ho
   replace s := gr s I hg
   replace y := gr y I hg
   replace L := am (Kd.R_over' (rl L.out) (Kd.R_typed (rl I.out)) (by decide) hg)
   replace HB := am hb
   have a9 := am ho
   clear I
   clear ho hb hg hat
   obtain ⟨bj, bk, ba⟩ := Kd.R_slice a9.out
   (first | subst ba | (injection ba with an az ao; have aA := an.symm; have aC := ao.symm; clear an az ao; subst aA; subst aC))
   obtain ⟨bl, bm, bc⟩ := Kd.R_slice L.out
   (first | subst bc | (injection bc with an az ao; have aA := an.symm; have aC := ao.symm; clear an az ao; subst aA; subst aC))
   refine hK.out _ _ ⟨cx s 0, cx s 1⟩ (fun hHeld => ?_)
   clear hK K
   refine nrm 10 ?_
   refine pu 8 11 ?_
   refine on0 9 (fun K hK => ?_)
   have bw : a8.cell? ⟨X, 0, none⟩ = some (.slice none 0 0) := cx y 0
   have bz := blk_frozen y.out 0
   have bA := ak.out
   have bB := aM.out
   have bC : a8.cell? ⟨X, 1, none⟩ = some (.slice none 0 0) := cx y 1
   have bD := blk_frozen y.out 1
   have bE := ak.out
   have bF := aM.out
   refine sk ?_
   refine hK.out _ _ ⟨((cell_far (p := ⟨X, _, none⟩) ak.out _).trans (((cell_far (p := ⟨X, _, none⟩) ak.out _).trans (hHeld.1)))), ((cell_far (p := ⟨X, _, none⟩) ak.out _).trans (((cell_far (p := ⟨X, _, none⟩) ak.out _).trans (hHeld.2))))⟩ (fun hHeld => ?_)
   clear hK K
   refine dn ?_
   try go_wp2
   refine bodyPost_ret (results_cell_row rfl _ _ X 34 #[.slice bl ai.length bm, .slice bj aK.length bk] (0, 0) _ rfl (bp y.out rfl) Try.underlying34 rfl (by kernel_rfl)) rfl ?_
   exact ⟨_, _, eqr, Kd.R_mono (rt L.out y.out (by decide)) (fun _ hk => trivial), Kd.R_mono (rt a9.out y.out (by decide)) (fun _ hk => trivial), bs HB.out⟩
  ·rw [if_neg c3] at H
   exact absurd H (by simp)
 ·rw [if_neg c2] at H
  exact absurd H (by simp)

end Go.Proofs.Ytohmemckdogljaa.QFnExactGraphDo
