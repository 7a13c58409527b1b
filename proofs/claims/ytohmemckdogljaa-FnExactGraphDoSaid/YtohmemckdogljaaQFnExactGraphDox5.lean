/- Contracts of the Go functions that this law reaches: each does what its plain Lean function says. No condition. -/
import Derived.Test.YtohmemckdogljaaQFnExactGraphDox0
import Derived.Test.YtohmemckdogljaaQFnExactGraphDox1
import Derived.Test.YtohmemckdogljaaQFnExactGraphDox4
namespace Go.Proofs.Ytohmemckdogljaa.QFnExactGraphDo
open Go.RowKit Go.Proofs.YtohmemckdogljaaW.PrintWords Go.Proofs.YtohmemckdogljaaW.PrintLast Go.Proofs.YtohmemckdogljaaW.PrintMore Go.Proofs.Ytohmemckdogljaa.Bl
attribute [local go_sem] max2_int min2_int max_two min_two max_three min_three max_four min_four   -- for this text's walks alone
set_option linter.unusedVariables false
set_option linter.unusedSimpArgs false
set_option maxHeartbeats 8000000
set_option maxRecDepth 100000

attribute [local go_sem high] eqA36
/-! ### laws_heldEdgeS: function 85 -/
def laws_heldEdgeS.l0 : Nat → List (S56) → Int → Int → Option (Int)
 | 0, _, _, _ => none
 | k + 1, z, D, s => if s < (z.length : Int) then (if 0 ≤ s then (if ((rd_T56 z s).f0) = D then (if ((rd_T56 z s).f1.f0) = (wrap64 (D + 1)) then (if ((rd_T56 z s).f1.f1) = (wrap64 ((wrap64 (D + 1)) + 1)) then (if ((rd_T56 z s).f2.f0) = (wrap64 ((wrap64 ((wrap64 (D + 1)) + 1)) + 1)) then (if ((rd_T56 z s).f2.f1) = (wrap64 ((wrap64 ((wrap64 ((wrap64 (D + 1)) + 1)) + 1)) + 1)) then (laws_heldEdgeS.l0 k z (wrap64 ((wrap64 ((wrap64 ((wrap64 ((wrap64 (D + 1)) + 1)) + 1)) + 1)) + 1)) (wrap64 (s + 1))) else (some (-1))) else (some (-1))) else (some (-1))) else (some (-1))) else (some (-1))) else (none)) else (some D)
def laws_heldEdgeS.f (k : Nat) (l0 : List (S56)) (s : Int) : Option (Int) := laws_heldEdgeS.l0 k l0 s 0
theorem laws_heldEdgeS.calls (k : Nat) (A0 : Option Addr) (c0 : Nat) (l0 : List (S56)) (a1 : Int) (r : Int) (w : World) (aE : Kd.C k56 w A0 l0.length l0) (aF : l0.length ≤ c0) (h : laws_heldEdgeS.f k l0 a1 = some r) :
  Calls Try.prog 85 #[.slice A0 l0.length c0, .int .i64 a1] w fun e w' => e = .returned (.int .i64 r) ∧ Drawn0 w w' := by
 have J := am aE
 have a6 := am aF
 clear aE aF
 have H := h; unfold laws_heldEdgeS.f at H
 clear h
 have H' := am H
 clear H
 go_enter Try.func85, Try.ntmps85
 go_wp2
 go_loopg [1, 5] k (fun kq v1 v5 w' => ∃ (z : Int) (s : Int), v1 = .int .i64 z ∧ v5 = .int .i64 s ∧ Aside0 (laws_heldEdgeS.l0 kq l0 z s = some r) ∧ Aside0 (kq ≤ k) ∧ Drawn0 w w')
 case atStart => exact ⟨(a1), (0), eqs, eqs, H', ⟨Nat.le_refl _⟩, drs⟩
 case round =>
  clear H'
  try clear p2
  obtain ⟨z, s, rfl, rfl, HA, aG, ⟨m1, rfl⟩⟩ := hrel
  cases gk with
  | zero => exact absurd HA.out (by simp [laws_heldEdgeS.l0])
  | succ k1 =>
   have H := HA.out
   clear HA
   simp only [laws_heldEdgeS.l0] at H
   by_cases c3 : s < (l0.length : Int)
   ·rw [if_pos c3] at H
    have aM : decide (s < (l0.length : Int)) = true := decide_eq_true c3
    clear c3
    by_cases c4 : 0 ≤ s
    ·rw [if_pos c4] at H
     have a7 : decide (0 ≤ s) = true := decide_eq_true c4
     clear c4
     by_cases c5 : ((rd_T56 l0 s).f0) = z
     ·rw [if_pos c5] at H
      have aN : (((rd_T56 l0 s).f0) == z) = true := beq_iff_eq.mpr c5
      have aO : (((rd_T56 l0 s).f0) != z) = false := bne_eq_false_iff_eq.mpr c5
      clear c5
      by_cases c6 : ((rd_T56 l0 s).f1.f0) = (wrap64 (z + 1))
      ·rw [if_pos c6] at H
       have aP : (((rd_T56 l0 s).f1.f0) == (wrap64 (z + 1))) = true := beq_iff_eq.mpr c6
       have aQ : (((rd_T56 l0 s).f1.f0) != (wrap64 (z + 1))) = false := bne_eq_false_iff_eq.mpr c6
       clear c6
       by_cases c7 : ((rd_T56 l0 s).f1.f1) = (wrap64 ((wrap64 (z + 1)) + 1))
       ·rw [if_pos c7] at H
        have aR : (((rd_T56 l0 s).f1.f1) == (wrap64 ((wrap64 (z + 1)) + 1))) = true := beq_iff_eq.mpr c7
        have aS : (((rd_T56 l0 s).f1.f1) != (wrap64 ((wrap64 (z + 1)) + 1))) = false := bne_eq_false_iff_eq.mpr c7
        clear c7
        by_cases c8 : ((rd_T56 l0 s).f2.f0) = (wrap64 ((wrap64 ((wrap64 (z + 1)) + 1)) + 1))
        ·rw [if_pos c8] at H
         have aT : (((rd_T56 l0 s).f2.f0) == (wrap64 ((wrap64 ((wrap64 (z + 1)) + 1)) + 1))) = true := beq_iff_eq.mpr c8
         have aU : (((rd_T56 l0 s).f2.f0) != (wrap64 ((wrap64 ((wrap64 (z + 1)) + 1)) + 1))) = false := bne_eq_false_iff_eq.mpr c8
         clear c8
         by_cases c9 : ((rd_T56 l0 s).f2.f1) = (wrap64 ((wrap64 ((wrap64 ((wrap64 (z + 1)) + 1)) + 1)) + 1))
         ·rw [if_pos c9] at H
          have aV : (((rd_T56 l0 s).f2.f1) == (wrap64 ((wrap64 ((wrap64 ((wrap64 (z + 1)) + 1)) + 1)) + 1))) = true := beq_iff_eq.mpr c9
          have aW : (((rd_T56 l0 s).f2.f1) != (wrap64 ((wrap64 ((wrap64 ((wrap64 (z + 1)) + 1)) + 1)) + 1))) = false := bne_eq_false_iff_eq.mpr c9
          clear c9
          have H' := am H
          clear H
          have D : 0 ≤ (s : Int) := oda
          have I : s < (l0.length : Int) := oda
          obtain ⟨L, Y, ah, ai, aj, ak, al⟩ := at_T56 J.out s D I
          cases Y
          replace D := eq_true D
          replace I := eq_true I
          have M : 0 ≤ (s : Int) := oda
          have O : s < (l0.length : Int) := oda
          obtain ⟨ab, ac, ap, aq, ar, au, av⟩ := at_T56 J.out s M O
          obtain rfl : L = ab := (by injection ac)
          replace M := eq_true M
          replace O := eq_true O
          have T : 0 ≤ (s : Int) := oda
          have X : s < (l0.length : Int) := oda
          obtain ⟨ad, ae, ax, ay, az, aA, aB⟩ := at_T56 J.out s T X
          obtain rfl : L = ad := (by injection ae)
          replace T := eq_true T
          replace X := eq_true X
          have Z : 0 ≤ (s : Int) := oda
          have aa : s < (l0.length : Int) := oda
          obtain ⟨an, ao, aH, aI, aJ, aK, aL⟩ := at_T56 J.out s Z aa
          obtain rfl : L = an := (by injection ao)
          replace Z := eq_true Z
          replace aa := eq_true aa
          have af : 0 ≤ (s : Int) := oda
          have ag : s < (l0.length : Int) := oda
          obtain ⟨aC, aD, aX, aY, aZ, a4, a5⟩ := at_T56 J.out s af ag
          obtain rfl : L = aC := (by injection aD)
          replace af := eq_true af
          replace ag := eq_true ag
          go_wp2
          go_roundg k1
          case measure => have := aG.out; omega
          case rel => exact ⟨(wrap64 ((wrap64 ((wrap64 ((wrap64 ((wrap64 (z + 1)) + 1)) + 1)) + 1)) + 1)), (wrap64 (s + 1)), eqs, eqs, H', ⟨by have := aG.out; omega⟩, drs⟩
         ·rw [if_neg c9] at H
          have aV : (((rd_T56 l0 s).f2.f1) == (wrap64 ((wrap64 ((wrap64 ((wrap64 (z + 1)) + 1)) + 1)) + 1))) = false := beq_eq_false_iff_ne.mpr c9
          have aW : (((rd_T56 l0 s).f2.f1) != (wrap64 ((wrap64 ((wrap64 ((wrap64 (z + 1)) + 1)) + 1)) + 1))) = true := bne_iff_ne.mpr c9
          obtain rfl := Option.some.inj H
          have D : 0 ≤ (s : Int) := oda
          have I : s < (l0.length : Int) := oda
          obtain ⟨L, Y, ah, ai, aj, ak, al⟩ := at_T56 J.out s D I
          cases Y
          replace D := eq_true D
          replace I := eq_true I
          have M : 0 ≤ (s : Int) := oda
          have O : s < (l0.length : Int) := oda
          obtain ⟨ab, ac, ap, aq, ar, au, av⟩ := at_T56 J.out s M O
          obtain rfl : L = ab := (by injection ac)
          replace M := eq_true M
          replace O := eq_true O
          have T : 0 ≤ (s : Int) := oda
          have X : s < (l0.length : Int) := oda
          obtain ⟨ad, ae, ax, ay, az, aA, aB⟩ := at_T56 J.out s T X
          obtain rfl : L = ad := (by injection ae)
          replace T := eq_true T
          replace X := eq_true X
          have Z : 0 ≤ (s : Int) := oda
          have aa : s < (l0.length : Int) := oda
          obtain ⟨an, ao, aH, aI, aJ, aK, aL⟩ := at_T56 J.out s Z aa
          obtain rfl : L = an := (by injection ao)
          replace Z := eq_true Z
          replace aa := eq_true aa
          have af : 0 ≤ (s : Int) := oda
          have ag : s < (l0.length : Int) := oda
          obtain ⟨aC, aD, aX, aY, aZ, a4, a5⟩ := at_T56 J.out s af ag
          obtain rfl : L = aC := (by injection aD)
          replace af := eq_true af
          replace ag := eq_true ag
          go_wp2
          go_ret
          exact ⟨eqs, drs⟩
        ·rw [if_neg c8] at H
         have aT : (((rd_T56 l0 s).f2.f0) == (wrap64 ((wrap64 ((wrap64 (z + 1)) + 1)) + 1))) = false := beq_eq_false_iff_ne.mpr c8
         have aU : (((rd_T56 l0 s).f2.f0) != (wrap64 ((wrap64 ((wrap64 (z + 1)) + 1)) + 1))) = true := bne_iff_ne.mpr c8
         obtain rfl := Option.some.inj H
         have D : 0 ≤ (s : Int) := oda
         have I : s < (l0.length : Int) := oda
         obtain ⟨L, Y, ah, ai, aj, ak, al⟩ := at_T56 J.out s D I
         cases Y
         replace D := eq_true D
         replace I := eq_true I
         have M : 0 ≤ (s : Int) := oda
         have O : s < (l0.length : Int) := oda
         obtain ⟨ab, ac, ap, aq, ar, au, av⟩ := at_T56 J.out s M O
         obtain rfl : L = ab := (by injection ac)
         replace M := eq_true M
         replace O := eq_true O
         have T : 0 ≤ (s : Int) := oda
         have X : s < (l0.length : Int) := oda
         obtain ⟨ad, ae, ax, ay, az, aA, aB⟩ := at_T56 J.out s T X
         obtain rfl : L = ad := (by injection ae)
         replace T := eq_true T
         replace X := eq_true X
         have Z : 0 ≤ (s : Int) := oda
         have aa : s < (l0.length : Int) := oda
         obtain ⟨an, ao, aH, aI, aJ, aK, aL⟩ := at_T56 J.out s Z aa
         obtain rfl : L = an := (by injection ao)
         replace Z := eq_true Z
         replace aa := eq_true aa
         go_wp2
         go_ret
         exact ⟨eqs, drs⟩
       ·rw [if_neg c7] at H
        have aR : (((rd_T56 l0 s).f1.f1) == (wrap64 ((wrap64 (z + 1)) + 1))) = false := beq_eq_false_iff_ne.mpr c7
        have aS : (((rd_T56 l0 s).f1.f1) != (wrap64 ((wrap64 (z + 1)) + 1))) = true := bne_iff_ne.mpr c7
        obtain rfl := Option.some.inj H
        have D : 0 ≤ (s : Int) := oda
        have I : s < (l0.length : Int) := oda
        obtain ⟨L, Y, ah, ai, aj, ak, al⟩ := at_T56 J.out s D I
        cases Y
        replace D := eq_true D
        replace I := eq_true I
        have M : 0 ≤ (s : Int) := oda
        have O : s < (l0.length : Int) := oda
        obtain ⟨ab, ac, ap, aq, ar, au, av⟩ := at_T56 J.out s M O
        obtain rfl : L = ab := (by injection ac)
        replace M := eq_true M
        replace O := eq_true O
        have T : 0 ≤ (s : Int) := oda
        have X : s < (l0.length : Int) := oda
        obtain ⟨ad, ae, ax, ay, az, aA, aB⟩ := at_T56 J.out s T X
        obtain rfl : L = ad := (by injection ae)
        replace T := eq_true T
        replace X := eq_true X
        go_wp2
        go_ret
        exact ⟨eqs, drs⟩
      ·rw [if_neg c6] at H
       have aP : (((rd_T56 l0 s).f1.f0) == (wrap64 (z + 1))) = false := beq_eq_false_iff_ne.mpr c6
       have aQ : (((rd_T56 l0 s).f1.f0) != (wrap64 (z + 1))) = true := bne_iff_ne.mpr c6
       obtain rfl := Option.some.inj H
       have D : 0 ≤ (s : Int) := oda
       have I : s < (l0.length : Int) := oda
       obtain ⟨L, Y, ah, ai, aj, ak, al⟩ := at_T56 J.out s D I
       cases Y
       replace D := eq_true D
       replace I := eq_true I
       have M : 0 ≤ (s : Int) := oda
       have O : s < (l0.length : Int) := oda
       obtain ⟨ab, ac, ap, aq, ar, au, av⟩ := at_T56 J.out s M O
       obtain rfl : L = ab := (by injection ac)
       replace M := eq_true M
       replace O := eq_true O
       go_wp2
       go_ret
       exact ⟨eqs, drs⟩
     ·rw [if_neg c5] at H
      have aN : (((rd_T56 l0 s).f0) == z) = false := beq_eq_false_iff_ne.mpr c5
      have aO : (((rd_T56 l0 s).f0) != z) = true := bne_iff_ne.mpr c5
      obtain rfl := Option.some.inj H
      have D : 0 ≤ (s : Int) := oda
      have I : s < (l0.length : Int) := oda
      obtain ⟨L, Y, ah, ai, aj, ak, al⟩ := at_T56 J.out s D I
      cases Y
      replace D := eq_true D
      replace I := eq_true I
      go_wp2
      go_ret
      exact ⟨eqs, drs⟩
    ·rw [if_neg c4] at H
     exact absurd H (by simp)
   ·rw [if_neg c3] at H
    have aM : decide (s < (l0.length : Int)) = false := decide_eq_false c3
    clear c3
    obtain rfl := Option.some.inj H
    go_wp2
    go_ret
    exact ⟨eqs, drs⟩

/-! ### laws_heldGraph: function 37 -/
def laws_heldGraph.f (k : Nat) (D : List (S36)) (I : List (S56)) (J : Int) : Option (Int) := (laws_heldNodeS.f k D J).bind fun s => (if s < 0 then (some (-1)) else ((laws_heldEdgeS.f k I s).bind fun z => (if z < 0 then (some (-1)) else (some z))))
theorem laws_heldGraph.calls (k : Nat) (L : Option Addr) (M : Nat) (s : List (S36)) (X : Option Addr) (Y : Nat) (z : List (S56)) (O : Int) (r : Int) (w : World) (ad : Kd.C k36 w L s.length s) (ae : s.length ≤ M) (af : Kd.C k56 w X z.length z) (ag : z.length ≤ Y) (h : laws_heldGraph.f k s z O = some r) :
  Calls Try.prog 37 #[.agg #[.slice L s.length M, .slice X z.length Y], .int .i64 O] w fun e w' => e = .returned (.int .i64 r) ∧ Below w.heap.size w w' := by
 have hu34 := Try.underlying34
 have ab := am ad
 have ac := am ae
 clear ad ae
 have ah := am af
 have ai := am ag
 clear af ag
 have HB := am (Below.refl w.heap.size w)
 have H := h; unfold laws_heldGraph.f at H
 clear h
 replace H := Option.bind_eq_some_iff.mp H
 obtain ⟨D, aj, H⟩ := H
 try dsimp -simprocs only at H
 have A3 := am aj
 clear aj
 by_cases c4 : D < 0
 ·rw [if_pos c4] at H
  have ao : decide (D < 0) = true := decide_eq_true c4
  clear c4
  obtain rfl := Option.some.inj H
  go_enter Try.func37, Try.ntmps37
  go_wp2_with (first | ((with_reducible refine gd 2 rfl ?_); refine bx 2 (cs := #[.slice L s.length M, .slice X z.length Y]) (t := 34) ?_; intro ak hg w5 hbox hb; have T := am hbox; have al := gwb HB hg; replace HB := hs HB hb; clear hb hbox hg; obtain ⟨ar, au⟩ := bc2 (w := w5) T.out; have av := blk_frozen T.out) | ((with_reducible refine gc 25 rfl ?_); refine gl 8 Try.func25 #[.slice L s.length M, .int .i64 O] ?_; (with_reducible refine (laws_heldNodeS.calls k _ _ s O D _ ?I ?J A3.out).mono ?_); (case I => exact Kd.C_below ab.out (bs HB.out)); (case J => exact ac.out); rintro e w' ⟨rfl, ⟨nd, rfl⟩⟩; refine ⟨_, rfl, ?_⟩))
  go_ret
  exact ⟨eqr, bs HB.out⟩
 ·rw [if_neg c4] at H
  have ao : decide (D < 0) = false := decide_eq_false c4
  clear c4
  replace H := Option.bind_eq_some_iff.mp H
  obtain ⟨aa, an, H⟩ := H
  try dsimp -simprocs only at H
  have A7 := am an
  clear an
  by_cases c8 : aa < 0
  ·rw [if_pos c8] at H
   have ap : decide (aa < 0) = true := decide_eq_true c8
   clear c8
   obtain rfl := Option.some.inj H
   go_enter Try.func37, Try.ntmps37
   go_wp2_with (first | ((with_reducible refine gd 2 rfl ?_); refine bx 2 (cs := #[.slice L s.length M, .slice X z.length Y]) (t := 34) ?_; intro ak hg w9 hbox hb; have T := am hbox; have al := gwb HB hg; replace HB := hs HB hb; clear hb hbox hg; obtain ⟨aw, ax⟩ := bc2 (w := w9) T.out; have ay := blk_frozen T.out) | ((with_reducible refine gc 25 rfl ?_); refine gl 8 Try.func25 #[.slice L s.length M, .int .i64 O] ?_; (with_reducible refine (laws_heldNodeS.calls k _ _ s O D _ ?I ?J A3.out).mono ?_); (case I => exact Kd.C_below ab.out (bs HB.out)); (case J => exact ac.out); rintro e w' ⟨rfl, ⟨nd, rfl⟩⟩; refine ⟨_, rfl, ?_⟩) | ((with_reducible refine gc 85 rfl ?_); refine gl 14 Try.func85 #[.slice X z.length Y, .int .i64 D] ?_; (with_reducible refine (laws_heldEdgeS.calls k _ _ z D aa _ ?I ?J A7.out).mono ?_); (case I => exact Kd.C_below ah.out (bs HB.out)); (case J => exact ai.out); rintro e w' ⟨rfl, ⟨nd, rfl⟩⟩; refine ⟨_, rfl, ?_⟩))
   go_ret
   exact ⟨eqr, bs HB.out⟩
  ·rw [if_neg c8] at H
   have ap : decide (aa < 0) = false := decide_eq_false c8
   clear c8
   obtain rfl := Option.some.inj H
   go_enter Try.func37, Try.ntmps37
   go_wp2_with (first | ((with_reducible refine gd 2 rfl ?_); refine bx 2 (cs := #[.slice L s.length M, .slice X z.length Y]) (t := 34) ?_; intro ak hg aq hbox hb; have T := am hbox; have al := gwb HB hg; replace HB := hs HB hb; clear hb hbox hg; obtain ⟨az, aA⟩ := bc2 (w := aq) T.out; have aB := blk_frozen T.out) | ((with_reducible refine gc 25 rfl ?_); refine gl 8 Try.func25 #[.slice L s.length M, .int .i64 O] ?_; (with_reducible refine (laws_heldNodeS.calls k _ _ s O D _ ?I ?J A3.out).mono ?_); (case I => exact Kd.C_below ab.out (bs HB.out)); (case J => exact ac.out); rintro e w' ⟨rfl, ⟨nd, rfl⟩⟩; refine ⟨_, rfl, ?_⟩) | ((with_reducible refine gc 85 rfl ?_); refine gl 14 Try.func85 #[.slice X z.length Y, .int .i64 D] ?_; (with_reducible refine (laws_heldEdgeS.calls k _ _ z D aa _ ?I ?J A7.out).mono ?_); (case I => exact Kd.C_below ah.out (bs HB.out)); (case J => exact ai.out); rintro e w' ⟨rfl, ⟨nd, rfl⟩⟩; refine ⟨_, rfl, ?_⟩))
   go_ret
   exact ⟨eqr, bs HB.out⟩

/-! ### spec_l2At: function 62 -/
def spec_l2At.l0 : Nat → Int → List (S36) → List (S56) → Int → Int → Option (Int)
 | 0, _, _, _, _, _ => none
 | k + 1, s, z, J, D, I => if s < (z.length : Int) then (if 0 ≤ s then (if (((rd_T36 z s).f0) == D && (((rd_T36 z s).f1) == I)) = true then (some s) else (spec_l2At.l0 k (wrap64 (s + 1)) z J D I)) else (none)) else (some (-1))
def spec_l2At.f (k : Nat) (s : List (S36)) (z : List (S56)) (D : Int) (I : Int) : Option (Int) := spec_l2At.l0 k 0 s z D I
theorem spec_l2At.calls (k : Nat) (Z : Option Addr) (aa : Nat) (s : List (S36)) (ab : Option Addr) (ac : Nat) (O : List (S56)) (I : Int) (J : Int) (r : Int) (w : World) (ak : Kd.C k36 w Z s.length s) (al : s.length ≤ aa) (an : Kd.C k56 w ab O.length O) (ao : O.length ≤ ac) (h : spec_l2At.f k s O I J = some r) :
  Calls Try.prog 62 #[.agg #[.slice Z s.length aa, .slice ab O.length ac], .agg #[.int .i64 I, .int .i64 J]] w fun e w' => e = .returned (.int .i64 r) ∧ Below w.heap.size w w' := by
 have hu34 := Try.underlying34
 have hu36 := Try.underlying36
 have ap := am ak
 have aA := am al
 clear ak al
 have aB := am an
 have aC := am ao
 clear an ao
 have HB := am (Below.refl w.heap.size w)
 have H := h; unfold spec_l2At.f at H
 clear h
 have H' := am H
 clear H
 go_enter Try.func62, Try.ntmps62
 go_wp2_with (first | ((with_reducible refine gd 2 rfl ?_); refine bx 2 (cs := #[.slice Z s.length aa, .slice ab O.length ac]) (t := 34) ?_; intro ah hg w3 hbox hb; have D := am hbox; have aq := gwb HB hg; replace HB := hs HB hb; clear hb hbox hg) | ((with_reducible refine gd 3 rfl ?_); refine bx 3 (cs := #[.int .i64 I, .int .i64 J]) (t := 36) ?_; intro ai hg w4 hbox hb; have T := am hbox; have ar := gwb HB hg; replace HB := hs HB hb; have ad := nq D hg; have ae := nq' D hg; replace D := bb D hb rfl; clear hb hbox hg))
 repeat (go_quiet (first | ((with_reducible refine gd 2 rfl ?_); refine bx 2 (cs := #[.slice Z s.length aa, .slice ab O.length ac]) (t := 34) ?_; intro ah hg w3 hbox hb; have D := am hbox; have aq := gwb HB hg; replace HB := hs HB hb; clear hb hbox hg) | ((with_reducible refine gd 3 rfl ?_); refine bx 3 (cs := #[.int .i64 I, .int .i64 J]) (t := 36) ?_; intro ai hg w4 hbox hb; have T := am hbox; have ar := gwb HB hg; replace HB := hs HB hb; have ad := nq D hg; have ae := nq' D hg; replace D := bb D hb rfl; clear hb hbox hg)); try go_wp2_with (first | ((with_reducible refine gd 2 rfl ?_); refine bx 2 (cs := #[.slice Z s.length aa, .slice ab O.length ac]) (t := 34) ?_; intro ah hg w3 hbox hb; have D := am hbox; have aq := gwb HB hg; replace HB := hs HB hb; clear hb hbox hg) | ((with_reducible refine gd 3 rfl ?_); refine bx 3 (cs := #[.int .i64 I, .int .i64 J]) (t := 36) ?_; intro ai hg w4 hbox hb; have T := am hbox; have ar := gwb HB hg; replace HB := hs HB hb; have ad := nq D hg; have ae := nq' D hg; replace D := bb D hb rfl; clear hb hbox hg)))
 go_loopg [5] k (fun kq v5 w' => ∃ (z : Int), v5 = .int .i64 z ∧ Aside0 (spec_l2At.l0 kq z s O I J = some r) ∧ Aside0 (kq ≤ k) ∧ Aside0 (w'.heap[ah]? = some (.cells #[(.slice Z s.length aa), (.slice ab O.length ac)] 34 (0, 0))) ∧ Aside0 (w'.heap[ai]? = some (.cells #[.int .i64 I, .int .i64 J] 36 (0, 0))) ∧ Aside0 (Below w.heap.size w w'))
 case atStart => exact ⟨(0), eqs, H', ⟨Nat.le_refl _⟩, ⟨bf D.out⟩, ⟨bf T.out⟩, ⟨bs HB.out⟩⟩
 case round =>
  clear H'
  try clear p2
  obtain ⟨z, rfl, HA, au, D, T, HB⟩ := hrel
  cases gk with
  | zero => exact absurd HA.out (by simp [spec_l2At.l0])
  | succ k1 =>
   have H := HA.out
   clear HA
   simp only [spec_l2At.l0] at H
   by_cases c5 : z < (s.length : Int)
   ·rw [if_pos c5] at H
    have av : decide (z < (s.length : Int)) = true := decide_eq_true c5
    clear c5
    by_cases c6 : 0 ≤ z
    ·rw [if_pos c6] at H
     have aD : decide (0 ≤ z) = true := decide_eq_true c6
     clear c6
     by_cases M : (((rd_T36 s z).f0) == I && (((rd_T36 s z).f1) == J)) = true
     ·rw [if_pos M] at H
      have aw : (((rd_T36 s z).f0) == I && (((rd_T36 s z).f1) == J)) = true := M
      (try (have ax : decide (((rd_T36 s z).f0) = I && (((rd_T36 s z).f1) == J)) = true := by simpa using M))
      (try (have ay : (((rd_T36 s z).f0) == I && (((rd_T36 s z).f1) == J)) = true := by simpa using M))
      clear M
      obtain rfl := Option.some.inj H
      have aE := ad.out
      have aF := ae.out
      obtain ⟨aG, aH⟩ := bc2 (w := wr) D.out
      have aI := blk_frozen D.out
      have X : 0 ≤ (z : Int) := oda
      have Y : z < (s.length : Int) := oda
      obtain ⟨az, aj, af, ag⟩ := at_T36 ap.out z X Y
      cases aj
      replace af := cb HB af
      replace ag := cb HB ag
      replace X := eq_true X
      replace Y := eq_true Y
      obtain ⟨aJ, aK⟩ := bc2 (w := wr) T.out
      have aL := blk_frozen T.out
      go_wp2
      repeat (go_quiet (fail); try go_wp2)
      go_ret
      exact ⟨eqr, bs HB.out⟩
     ·rw [if_neg M] at H
      have aw : (((rd_T36 s z).f0) == I && (((rd_T36 s z).f1) == J)) = false := by simpa using M
      (try (have ax : decide (((rd_T36 s z).f0) = I && (((rd_T36 s z).f1) == J)) = false := by simpa using M))
      (try (have ay : (((rd_T36 s z).f0) == I && (((rd_T36 s z).f1) == J)) = false := by simpa using M))
      (try (have aM : ¬ (((rd_T36 s z).f0) = I && (((rd_T36 s z).f1) == J)) := by simpa using M))
      clear M
      have H' := am H
      clear H
      have aN := ad.out
      have aO := ae.out
      obtain ⟨aP, aQ⟩ := bc2 (w := wr) D.out
      have aR := blk_frozen D.out
      have X : 0 ≤ (z : Int) := oda
      have Y : z < (s.length : Int) := oda
      obtain ⟨az, aj, af, ag⟩ := at_T36 ap.out z X Y
      cases aj
      replace af := cb HB af
      replace ag := cb HB ag
      replace X := eq_true X
      replace Y := eq_true Y
      obtain ⟨aS, aT⟩ := bc2 (w := wr) T.out
      have aU := blk_frozen T.out
      go_wp2
      repeat (go_quiet (fail); try go_wp2)
      go_roundg k1
      case measure => have := au.out; omega
      case rel => exact ⟨(wrap64 (z + 1)), eqs, H', ⟨by have := au.out; omega⟩, ⟨bf D.out⟩, ⟨bf T.out⟩, ⟨bs HB.out⟩⟩
    ·rw [if_neg c6] at H
     exact absurd H (by simp)
   ·rw [if_neg c5] at H
    have av : decide (z < (s.length : Int)) = false := decide_eq_false c5
    clear c5
    obtain rfl := Option.some.inj H
    have aV := ad.out
    have aW := ae.out
    obtain ⟨aX, aY⟩ := bc2 (w := wr) D.out
    have aZ := blk_frozen D.out
    go_wp2
    repeat (go_quiet (fail); try go_wp2)
    go_ret
    exact ⟨eqr, bs HB.out⟩

/-! ### spec_LabelOk: function 83 -/
def spec_LabelOk.f (s : Int) : Option (Bool) := if s ≥ 0 then (some (decide (s ≤ 7))) else (some false)
theorem spec_LabelOk.calls (s : Int) (r : Bool) (w : World) (h : spec_LabelOk.f s = some r) :
  Calls Try.prog 83 #[.int .i64 s] w fun e w' => e = .returned (.bool r) ∧ Drawn0 w w' := by
 have H := h; unfold spec_LabelOk.f at H
 clear h
 by_cases c2 : s ≥ 0
 ·rw [if_pos c2] at H
  have z : decide (0 ≤ s) = true := decide_eq_true c2
  clear c2
  obtain rfl := Option.some.inj H
  go_enter Try.func83, Try.ntmps83
  go_wp2
  go_ret
  exact ⟨eqs, drs⟩
 ·rw [if_neg c2] at H
  have z : decide (0 ≤ s) = false := decide_eq_false c2
  clear c2
  obtain rfl := Option.some.inj H
  go_enter Try.func83, Try.ntmps83
  go_wp2
  go_ret
  exact ⟨eqs, drs⟩

/-! ### spec_NodeOk: function 75 -/
def spec_NodeOk.f (z : Int) (s : Int) : Option (Bool) := (spec_LabelOk.f z).bind fun D => (if D = true then (if s ≥ 0 then (some (decide (s ≤ 40))) else (some false)) else (some false))
theorem spec_NodeOk.calls (s : Int) (z : Int) (r : Bool) (w : World) (h : spec_NodeOk.f s z = some r) :
  Calls Try.prog 75 #[.agg #[.int .i64 s, .int .i64 z]] w fun e w' => e = .returned (.bool r) ∧ Below w.heap.size w w' := by
 have hu36 := Try.underlying36
 have HB := am (Below.refl w.heap.size w)
 have H := h; unfold spec_NodeOk.f at H
 clear h
 replace H := Option.bind_eq_some_iff.mp H
 obtain ⟨Y, O, H⟩ := H
 try dsimp -simprocs only at H
 have M := am O
 clear O
 by_cases L : Y = true
 ·subst L
  replace H : (if z ≥ 0 then (some (decide (z ≤ 40))) else (some false)) = some r := by rw [if_pos rfl] at H; exact H
  by_cases J : z ≥ 0
  ·rw [if_pos J] at H
   have Z : decide (0 ≤ z) = true := decide_eq_true J
   clear J
   obtain rfl := Option.some.inj H
   go_enter Try.func75, Try.ntmps75
   go_wp2_with (first | ((with_reducible refine gd 1 rfl ?_); refine bx 1 (cs := #[.int .i64 s, .int .i64 z]) (t := 36) ?_; intro T hg w5 hbox hb; have I := am hbox; have X := gwb HB hg; replace HB := hs HB hb; clear hb hbox hg; obtain ⟨aa, ab⟩ := bc2 (w := w5) I.out; have ac := blk_frozen I.out) | ((with_reducible refine gc 83 rfl ?_); refine gl 5 Try.func83 #[.int .i64 s] ?_; (with_reducible refine (spec_LabelOk.calls s true _ M.out).mono ?_); rintro e w' ⟨rfl, ⟨nd, rfl⟩⟩; refine ⟨_, rfl, ?_⟩))
   go_ret
   exact ⟨eqr, bs HB.out⟩
  ·rw [if_neg J] at H
   have Z : decide (0 ≤ z) = false := decide_eq_false J
   clear J
   obtain rfl := Option.some.inj H
   go_enter Try.func75, Try.ntmps75
   go_wp2_with (first | ((with_reducible refine gd 1 rfl ?_); refine bx 1 (cs := #[.int .i64 s, .int .i64 z]) (t := 36) ?_; intro T hg w7 hbox hb; have I := am hbox; have X := gwb HB hg; replace HB := hs HB hb; clear hb hbox hg; obtain ⟨ad, ae⟩ := bc2 (w := w7) I.out; have af := blk_frozen I.out) | ((with_reducible refine gc 83 rfl ?_); refine gl 5 Try.func83 #[.int .i64 s] ?_; (with_reducible refine (spec_LabelOk.calls s true _ M.out).mono ?_); rintro e w' ⟨rfl, ⟨nd, rfl⟩⟩; refine ⟨_, rfl, ?_⟩))
   go_ret
   exact ⟨eqr, bs HB.out⟩
 ·replace L := Bool.eq_false_iff.mpr L
  subst L
  have H1 : (some false) = some r := by rw [if_neg (show ¬ (false = true) by decide)] at H; exact H
  clear H
  have H := H1
  clear H1
  obtain rfl := Option.some.inj H
  go_enter Try.func75, Try.ntmps75
  go_wp2_with (first | ((with_reducible refine gd 1 rfl ?_); refine bx 1 (cs := #[.int .i64 s, .int .i64 z]) (t := 36) ?_; intro T hg w9 hbox hb; have I := am hbox; have X := gwb HB hg; replace HB := hs HB hb; clear hb hbox hg; obtain ⟨ag, ah⟩ := bc2 (w := w9) I.out; have ai := blk_frozen I.out) | ((with_reducible refine gc 83 rfl ?_); refine gl 5 Try.func83 #[.int .i64 s] ?_; (with_reducible refine (spec_LabelOk.calls s false _ M.out).mono ?_); rintro e w' ⟨rfl, ⟨nd, rfl⟩⟩; refine ⟨_, rfl, ?_⟩))
  go_ret
  exact ⟨eqr, bs HB.out⟩

/-! ### spec_l2Code: function 76 -/
def spec_l2Code.f (s : Int) (z : Int) : Option (Int) := some (wrap64 ((wrap64 (s * 64)) + z))
theorem spec_l2Code.calls (z : Int) (D : Int) (r : Int) (w : World) (h : spec_l2Code.f z D = some r) :
  Calls Try.prog 76 #[.agg #[.int .i64 z, .int .i64 D]] w fun e w' => e = .returned (.int .i64 r) ∧ Below w.heap.size w w' := by
 have hu36 := Try.underlying36
 have HB := am (Below.refl w.heap.size w)
 have H := h; unfold spec_l2Code.f at H
 clear h
 obtain rfl := Option.some.inj H
 go_enter Try.func76, Try.ntmps76
 go_wp2_with (first | ((with_reducible refine gd 1 rfl ?_); refine bx 1 (cs := #[.int .i64 z, .int .i64 D]) (t := 36) ?_; intro L hg J hbox hb; have I := am hbox; have M := gwb HB hg; replace HB := hs HB hb; clear hb hbox hg; obtain ⟨O, T⟩ := bc2 (w := J) I.out; have X := blk_frozen I.out))
 go_ret
 exact ⟨eqr, bs HB.out⟩

/-! ### spec_l1Two: function 161 -/
def spec_l1Two.l0 : Nat → Int → Int → Int → Option (Int)
 | 0, _, _, _ => none
 | k + 1, s, z, D => if D < s then (spec_l1Two.l0 k s (wrap64 (z * 2)) (wrap64 (D + 1))) else (some z)
def spec_l1Two.f (k : Nat) (s : Int) : Option (Int) := spec_l1Two.l0 k s 1 0
theorem spec_l1Two.calls (k : Nat) (z : Int) (r : Int) (w : World) (h : spec_l1Two.f k z = some r) :
  Calls Try.prog 161 #[.int .i64 z] w fun e w' => e = .returned (.int .i64 r) ∧ Drawn0 w w' := by
 have H := h; unfold spec_l1Two.f at H
 clear h
 have H' := am H
 clear H
 go_enter Try.func161, Try.ntmps161
 go_wp2
 go_loopg [3, 4] k (fun kq L M w' => ∃ (D : Int) (s : Int), L = .int .i64 D ∧ M = .int .i64 s ∧ Aside0 (spec_l1Two.l0 kq z D s = some r) ∧ Aside0 (kq ≤ k) ∧ Drawn0 w w')
 case atStart => exact ⟨(1), (0), eqs, eqs, H', ⟨Nat.le_refl _⟩, drs⟩
 case round =>
  clear H'
  try clear T
  obtain ⟨D, s, rfl, rfl, HA, J, ⟨m1, rfl⟩⟩ := hrel
  cases gk with
  | zero => exact absurd HA.out (by simp [spec_l1Two.l0])
  | succ k1 =>
   have H := HA.out
   clear HA
   simp only [spec_l1Two.l0] at H
   by_cases c2 : s < z
   ·rw [if_pos c2] at H
    have O : decide (s < z) = true := decide_eq_true c2
    clear c2
    have H' := am H
    clear H
    go_wp2
    go_roundg k1
    case measure => have := J.out; omega
    case rel => exact ⟨(wrap64 (D * 2)), (wrap64 (s + 1)), eqs, eqs, H', ⟨by have := J.out; omega⟩, drs⟩
   ·rw [if_neg c2] at H
    have O : decide (s < z) = false := decide_eq_false c2
    clear c2
    obtain rfl := Option.some.inj H
    go_wp2
    go_ret
    exact ⟨eqs, drs⟩

/-! ### spec_l1Has: function 141 -/
def spec_l1Has.f (k : Nat) (z : Int) (D : Int) : Option (Bool) := (spec_l1Two.f k D).bind fun s => (if s = 0 then (none) else (some ((Int.tmod (wrap64 (Int.tdiv z s)) 2) == 1)))
theorem spec_l1Has.calls (k : Nat) (I : Int) (s : Int) (r : Bool) (w : World) (h : spec_l1Has.f k I s = some r) :
  Calls Try.prog 141 #[.int .i64 I, .int .i64 s] w fun e w' => e = .returned (.bool r) ∧ Drawn0 w w' := by
 have H := h; unfold spec_l1Has.f at H
 clear h
 replace H := Option.bind_eq_some_iff.mp H
 obtain ⟨z, L, H⟩ := H
 try dsimp -simprocs only at H
 have M := am L
 clear L
 by_cases D : z = 0
 ·rw [if_pos D] at H
  exact absurd H (by simp)
 ·rw [if_neg D] at H
  have O : (z == 0) = false := beq_eq_false_iff_ne.mpr D
  have T : (z != 0) = true := bne_iff_ne.mpr D
  obtain rfl := Option.some.inj H
  go_enter Try.func141, Try.ntmps141
  go_wp2_with (first | ((with_reducible refine gc 161 rfl ?_); refine gl 7 Try.func161 #[.int .i64 s] ?_; (with_reducible refine (spec_l1Two.calls k s z _ M.out).mono ?_); rintro e w' ⟨rfl, ⟨nd, rfl⟩⟩; refine ⟨_, rfl, ?_⟩))
  go_ret
  exact ⟨eqs, drs⟩

/-! ### spec_l1Under: function 115 -/
def spec_l1Under.l0 : Nat → Int → Int → Int → Option (Bool)
 | 0, _, _, _ => none
 | k + 1, z, D, s => if s < 3 then ((spec_l1Has.f k z s).bind fun I => (if I = true then ((spec_l1Has.f k D s).bind fun J => (if J = true then (spec_l1Under.l0 k z D (wrap64 (s + 1))) else (some false))) else (spec_l1Under.l0 k z D (wrap64 (s + 1))))) else (some true)
def spec_l1Under.f (k : Nat) (s : Int) (z : Int) : Option (Bool) := spec_l1Under.l0 k s z 0
theorem spec_l1Under.calls (k : Nat) (z : Int) (D : Int) (r : Bool) (w : World) (h : spec_l1Under.f k z D = some r) :
  Calls Try.prog 115 #[.int .i64 z, .int .i64 D] w fun e w' => e = .returned (.bool r) ∧ Drawn0 w w' := by
 have H := h; unfold spec_l1Under.f at H
 clear h
 have H' := am H
 clear H
 go_enter Try.func115, Try.ntmps115
 go_wp2
 go_loopg [5] k (fun kq v5 w' => ∃ (s : Int), v5 = .int .i64 s ∧ Aside0 (spec_l1Under.l0 kq z D s = some r) ∧ Aside0 (kq ≤ k) ∧ Drawn0 w w')
 case atStart => exact ⟨(0), eqs, H', ⟨Nat.le_refl _⟩, drs⟩
 case round =>
  clear H'
  try clear c1
  try clear p2
  obtain ⟨s, rfl, HA, L, ⟨m1, rfl⟩⟩ := hrel
  cases gk with
  | zero => exact absurd HA.out (by simp [spec_l1Under.l0])
  | succ k1 =>
   have H := HA.out
   clear HA
   simp only [spec_l1Under.l0] at H
   by_cases J : s < 3
   ·rw [if_pos J] at H
    have aa : decide (s < 3) = true := decide_eq_true J
    clear J
    replace H := Option.bind_eq_some_iff.mp H
    obtain ⟨ab, Y, H⟩ := H
    try dsimp -simprocs only at H
    have T := am Y
    clear Y
    by_cases M : ab = true
    ·subst M
     replace H : ((spec_l1Has.f k1 D s).bind fun X => (if X = true then (spec_l1Under.l0 k1 z D (wrap64 (s + 1))) else (some false))) = some r := by rw [if_pos rfl] at H; exact H
     replace H := Option.bind_eq_some_iff.mp H
     obtain ⟨X, Z, H⟩ := H
     try dsimp -simprocs only at H
     have A6 := am Z
     clear Z
     by_cases O : X = true
     ·subst O
      replace H : (spec_l1Under.l0 k1 z D (wrap64 (s + 1))) = some r := by rw [if_pos rfl] at H; exact H
      have H' := am H
      clear H
      go_wp2_with (first | ((with_reducible refine gc 141 rfl ?_); refine gl 12 Try.func141 #[.int .i64 z, .int .i64 s] ?_; (with_reducible refine (spec_l1Has.calls k1 z s true _ T.out).mono ?_); rintro e w' ⟨rfl, ⟨nd, rfl⟩⟩; refine ⟨_, rfl, ?_⟩) | (go_at_call 141; (with_reducible refine (spec_l1Has.calls k1 D s true _ A6.out).mono ?_); rintro e w' ⟨rfl, ⟨nd, rfl⟩⟩))
      go_roundg k1
      case measure => have := L.out; omega
      case rel => exact ⟨(wrap64 (s + 1)), eqs, H', ⟨by have := L.out; omega⟩, drs⟩
     ·replace O := Bool.eq_false_iff.mpr O
      subst O
      have H1 : (some false) = some r := by rw [if_neg (show ¬ (false = true) by decide)] at H; exact H
      clear H
      have H := H1
      clear H1
      obtain rfl := Option.some.inj H
      go_wp2_with (first | ((with_reducible refine gc 141 rfl ?_); refine gl 12 Try.func141 #[.int .i64 z, .int .i64 s] ?_; (with_reducible refine (spec_l1Has.calls k1 z s true _ T.out).mono ?_); rintro e w' ⟨rfl, ⟨nd, rfl⟩⟩; refine ⟨_, rfl, ?_⟩) | (go_at_call 141; (with_reducible refine (spec_l1Has.calls k1 D s false _ A6.out).mono ?_); rintro e w' ⟨rfl, ⟨nd, rfl⟩⟩))
      go_ret
      exact ⟨eqs, drs⟩
    ·replace M := Bool.eq_false_iff.mpr M
     subst M
     have H1 : (spec_l1Under.l0 k1 z D (wrap64 (s + 1))) = some r := by rw [if_neg (show ¬ (false = true) by decide)] at H; exact H
     clear H
     have H := H1
     clear H1
     have H' := am H
     clear H
     go_wp2_with (first | ((with_reducible refine gc 141 rfl ?_); refine gl 12 Try.func141 #[.int .i64 z, .int .i64 s] ?_; (with_reducible refine (spec_l1Has.calls k1 z s false _ T.out).mono ?_); rintro e w' ⟨rfl, ⟨nd, rfl⟩⟩; refine ⟨_, rfl, ?_⟩))
     go_roundg k1
     case measure => have := L.out; omega
     case rel => exact ⟨(wrap64 (s + 1)), eqs, H', ⟨by have := L.out; omega⟩, drs⟩
   ·rw [if_neg J] at H
    have aa : decide (s < 3) = false := decide_eq_false J
    clear J
    obtain rfl := Option.some.inj H
    go_wp2
    go_ret
    exact ⟨eqs, drs⟩

/-! ### spec_EdgeOk: function 77 -/
theorem at_rounds {α : Type} {g : Nat → Option α} (hm : ∀ k, LeO (g k) (g (k + 1))) {k0 k : Nat} (h : k0 ≤ k) {r : α} (hr : g k0 = some r) : g k = some r := by
  induction h with
  | refl => exact hr
  | step _ ih => exact hm _ _ ih
theorem sIs (a : Int) : spec_LabelOk.f a = some (isL a) := by
  unfold spec_LabelOk.f isL
  by_cases h : a ≥ 0
  · rw [if_pos h]; simp [h]
  · rw [if_neg h]; simp [h]
theorem sN (a b : Int) : spec_NodeOk.f a b = some (nOk a b) := by
  unfold spec_NodeOk.f
  rw [sIs]
  cases h : isL a
  · simp [nOk, h]
  · by_cases hb : 0 ≤ b
    · simp [nOk, h, hb]
    · simp [nOk, h, hb]
theorem sC2 {a b : Int} (h : nOk a b = true) : spec_l2Code.f a b = some (64 * a + b) := by
  have h' := nOk_iff.1 h
  unfold spec_l2Code.f
  rw [w64 (x := a * 64) (by omega), w64 (x := a * 64 + b) (by omega), Int.mul_comm]
theorem sU8 : ∀ a b : Fin 8, spec_l1Under.f 10 (a.val : Int) (b.val : Int) = some (U a.val b.val) := by decide +kernel
theorem sU {a b : Int} (ha : isL a = true) (hb : isL b = true) : spec_l1Under.f 10 a b = some (U a b) := by
  obtain ⟨x, rfl⟩ := fin8 ha
  obtain ⟨y, rfl⟩ := fin8 hb
  exact sU8 x y
def spec_EdgeOk.f (s : Int) (z : Int) (D : Int) (I : Int) (J : Int) : Option (Bool) := some (EOk s z D I J)
set_option maxHeartbeats 8000000 in
set_option maxRecDepth 100000 in
theorem spec_EdgeOk.calls (I : Int) (z : Int) (J : Int) (D : Int) (L : Int) (r : Bool) (w : World) (h : spec_EdgeOk.f I z J D L = some r) :
    Calls Try.prog 77 #[.agg #[.int .i64 I, .int .i64 z, .int .i64 J, .int .i64 D, .int .i64 L]] w fun e w' => e = .returned (.bool r) ∧ Below w.heap.size w w' := by
  have hu56 := Try.underlying56
  have hu36 := Try.underlying36
  have HB := am (Below.refl w.heap.size w)
  obtain rfl := Option.some.inj h
  clear h
  have F : ∀ (b1 b2 b3 b4 b5 b6 : Bool), isL I = b1 → nOk z J = b2 → nOk D L = b3 → decide (64 * z + J < 64 * D + L) = b4 → U z I = b5 → U D I = b6 →
      Calls Try.prog 77 #[.agg #[.int .i64 I, .int .i64 z, .int .i64 J, .int .i64 D, .int .i64 L]] w fun e w' => e = .returned (.bool (b1 && (b2 && (b3 && (b4 && (b5 && b6)))))) ∧ Below w.heap.size w w' := by
    intro b1 b2 b3 b4 b5 b6 h1 h2 h3 h4 h5 h6
    have H1 := am h1
    have H2 := am h2
    have H3 := am h3
    have H5 := am h5
    have H6 := am h6
    clear h1 h2 h3 h5 h6
    go_enter Try.func77, Try.ntmps77
    go_wp2_with (first | ((with_reducible refine gate_dst (N := 1) rfl ?_); refine box_event ?hg (N := 1) ?hd (cs := #[.int .i64 I, .int .i64 z, .int .i64 J, .int .i64 D, .int .i64 L]) (t := 56) ?hr ?_; (case hd => rfl); (case hg => rfl); (case hr => first | (go_simp; done) | (go_simp; rfl)); intro gb hg M hbox hb; have O := am (below_step HB.out hb); clear HB; have HB := O; clear O hg hb))
    have T : ∀ p : Bel M, p.v.cell? ⟨gb, 0, none⟩ = some (.int .i64 I) := fun p => cell_bel ((blk_cell hbox 0).trans rfl) p
    have X : ∀ p : Bel M, p.v.cell? ⟨gb, 1, none⟩ = some (.int .i64 z) := fun p => cell_bel ((blk_cell hbox 1).trans rfl) p
    have Y : ∀ p : Bel M, p.v.cell? ⟨gb, 2, none⟩ = some (.int .i64 J) := fun p => cell_bel ((blk_cell hbox 2).trans rfl) p
    have Z : ∀ p : Bel M, p.v.cell? ⟨gb, 3, none⟩ = some (.int .i64 D) := fun p => cell_bel ((blk_cell hbox 3).trans rfl) p
    have aa : ∀ p : Bel M, p.v.cell? ⟨gb, 4, none⟩ = some (.int .i64 L) := fun p => cell_bel ((blk_cell hbox 4).trans rfl) p
    clear hbox
    refine wp_region_bel0 (by kernel_rfl) (by kernel_rfl) ?_
    rcases path6 b1 b2 b3 b4 b5 b6 with rfl | ⟨rfl, rfl⟩ | ⟨rfl, rfl, rfl⟩ | ⟨rfl, rfl, rfl, rfl⟩ | ⟨rfl, rfl, rfl, rfl, rfl⟩ | ⟨rfl, rfl, rfl, rfl, rfl, rfl⟩ | ⟨rfl, rfl, rfl, rfl, rfl, rfl⟩ <;>
    (repeat (go_big_quiet_step (first
        | with_reducible exact calls_bel0 (spec_LabelOk.calls _ _ _ ((sIs I).trans (congrArg some H1.out)))
        | with_reducible exact calls_bel (spec_NodeOk.calls z J _ _ ((sN z J).trans (congrArg some H2.out)))
        | with_reducible exact calls_bel (spec_NodeOk.calls D L _ _ ((sN D L).trans (congrArg some H3.out)))
        | with_reducible exact calls_bel (spec_l2Code.calls z J _ _ (sC2 H2.out))
        | with_reducible exact calls_bel (spec_l2Code.calls D L _ _ (sC2 H3.out))
        | with_reducible exact calls_bel0 (spec_l1Under.calls 10 z I _ _ ((sU (nOk_l H2.out) H1.out).trans (congrArg some H5.out)))
        | with_reducible exact calls_bel0 (spec_l1Under.calls 10 D I _ _ ((sU (nOk_l H3.out) H1.out).trans (congrArg some H6.out)))))
     refine wpQuiet_nil ?_
     intro _ hw'
     obtain ⟨⟨wq, hbq⟩, hw''⟩ := hw'
     subst hw''
     go_wp2
     go_ret
     exact ⟨by first | rfl | (simp; done) | (simp [*]; done), below_step HB.out hbq⟩)
  have G := F _ _ _ _ _ _ rfl rfl rfl rfl rfl rfl
  have e : EOk I z J D L = (isL I && (nOk z J && (nOk D L && (decide (64 * z + J < 64 * D + L) && (U z I && U D I))))) := by
    rfl
  rw [e]
  exact G

/-! ### spec_l2Less: function 78 -/
def spec_l2Less.f (s : Int) (z : Int) (D : Int) (M : Int) (O : Int) (I : Int) (J : Int) (L : Int) (T : Int) (X : Int) : Option (Bool) := if s = I then (if (!(z == J) || (!(D == L))) = true then ((spec_l2Code.f z D).bind fun Y => ((spec_l2Code.f J L).bind fun Z => (some (decide (Y < Z))))) else ((spec_l2Code.f M O).bind fun aa => ((spec_l2Code.f T X).bind fun ab => (some (decide (aa < ab)))))) else (some (decide (s < I)))
theorem spec_l2Less.calls (I : Int) (J : Int) (L : Int) (ab : Int) (ac : Int) (M : Int) (O : Int) (T : Int) (ad : Int) (ae : Int) (r : Bool) (w : World) (h : spec_l2Less.f I J L ab ac M O T ad ae = some r) :
  Calls Try.prog 78 #[.agg #[.int .i64 I, .int .i64 J, .int .i64 L, .int .i64 ab, .int .i64 ac], .agg #[.int .i64 M, .int .i64 O, .int .i64 T, .int .i64 ad, .int .i64 ae]] w fun e w' => e = .returned (.bool r) ∧ Below w.heap.size w w' := by
 have hu56 := Try.underlying56
 have hu36 := Try.underlying36
 have HB := am (Below.refl w.heap.size w)
 have H := h; unfold spec_l2Less.f at H
 clear h
 by_cases c3 : I = M
 ·rw [if_pos c3] at H
  have aC : (I == M) = true := beq_iff_eq.mpr c3
  have aD : (I != M) = false := bne_eq_false_iff_eq.mpr c3
  clear c3
  by_cases c4 : (!(J == O) || (!(L == T))) = true
  ·rw [if_pos c4] at H
   have aE : (!(J == O) || (!(L == T))) = true := c4
   clear c4
   replace H := Option.bind_eq_some_iff.mp H
   obtain ⟨aF, av, H⟩ := H
   try dsimp -simprocs only at H
   have A5 := am av
   clear av
   replace H := Option.bind_eq_some_iff.mp H
   obtain ⟨aG, aw, H⟩ := H
   try dsimp -simprocs only at H
   have A6 := am aw
   clear aw
   obtain rfl := Option.some.inj H
   go_enter Try.func78, Try.ntmps78
   try go_wp2_with (first | ((with_reducible refine gd 2 rfl ?_); refine bx 2 (cs := #[.int .i64 I, .int .i64 J, .int .i64 L, .int .i64 ab, .int .i64 ac]) (t := 56) ?_; intro X hg w7 hbox hb; have z := am hbox; have ax := gwb HB hg; replace HB := hs HB hb; clear hb hbox hg) | ((with_reducible refine gd 3 rfl ?_); refine bx 3 (cs := #[.int .i64 M, .int .i64 O, .int .i64 T, .int .i64 ad, .int .i64 ae]) (t := 56) ?_; intro Y hg w8 hbox hb; have D := am hbox; have ay := gwb HB hg; replace HB := hs HB hb; have af := nq z hg; have ag := nq' z hg; replace z := bb z hb rfl; clear hb hbox hg; have aL := af.out; have aM := ag.out; obtain ⟨aN, aO, aP, aQ, aR⟩ := bc5 (w := w8) z.out; have aS := blk_frozen z.out; obtain ⟨aT, aU, aV, aW, aX⟩ := bc5 (w := w8) D.out; have aY := blk_frozen D.out))
   replace z := bd z
   replace D := bd D
   replace HB := hd HB
   refine wp_region_bel (by kernel_rfl) (by kernel_rfl) ?_
   generalize w8.drew = Z at z D HB ⊢
   have hbp_ := fun (p_ : Bel Z) => below_step HB.out p_.h
   have ah : ∀ p_ : Bel Z, p_.v.cell? ⟨X, 0, none⟩ = some (.int .i64 I) := fun p_ => cell_bel (cx z 0) p_
   have ai : ∀ p_ : Bel Z, p_.v.cell? ⟨X, 1, none⟩ = some (.int .i64 J) := fun p_ => cell_bel (cx z 1) p_
   have aj : ∀ p_ : Bel Z, p_.v.cell? ⟨X, 2, none⟩ = some (.int .i64 L) := fun p_ => cell_bel (cx z 2) p_
   have ak : ∀ p_ : Bel Z, p_.v.cell? ⟨X, 3, none⟩ = some (.int .i64 ab) := fun p_ => cell_bel (cx z 3) p_
   have al : ∀ p_ : Bel Z, p_.v.cell? ⟨X, 4, none⟩ = some (.int .i64 ac) := fun p_ => cell_bel (cx z 4) p_
   have an : ∀ p_ : Bel Z, p_.v.cell? ⟨Y, 0, none⟩ = some (.int .i64 M) := fun p_ => cell_bel (cx D 0) p_
   have ao : ∀ p_ : Bel Z, p_.v.cell? ⟨Y, 1, none⟩ = some (.int .i64 O) := fun p_ => cell_bel (cx D 1) p_
   have ap : ∀ p_ : Bel Z, p_.v.cell? ⟨Y, 2, none⟩ = some (.int .i64 T) := fun p_ => cell_bel (cx D 2) p_
   have aq : ∀ p_ : Bel Z, p_.v.cell? ⟨Y, 3, none⟩ = some (.int .i64 ad) := fun p_ => cell_bel (cx D 3) p_
   have ar : ∀ p_ : Bel Z, p_.v.cell? ⟨Y, 4, none⟩ = some (.int .i64 ae) := fun p_ => cell_bel (cx D 4) p_
   repeat (go_big_quiet_step (first
    | (with_reducible show Calls Try.prog 76 #[.agg #[.int .i64 J, .int .i64 L]] _ _; with_reducible exact calls_bel (spec_l2Code.calls J L aF _ A5.out))
    | (with_reducible show Calls Try.prog 76 #[.agg #[.int .i64 O, .int .i64 T]] _ _; with_reducible exact calls_bel (spec_l2Code.calls O T aG _ A6.out))))
   refine wpQuiet_nil ?_
   intro aZ hw'
   obtain ⟨⟨wq_, hb⟩, hw''⟩ := hw'
   subst hw''
   clear hbp_ ah ai aj ak al an ao ap aq ar
   replace z := bb z hb rfl
   replace D := bb D hb rfl
   replace HB := hs HB hb
   (try clear hb)
   (try clear hb2)
   (try clear hk)
   (try clear hi)
   try go_wp2
   go_ret
   exact ⟨eqr, bs HB.out⟩
  ·rw [if_neg c4] at H
   have aE : (!(J == O) || (!(L == T))) = false := by simpa using c4
   clear c4
   replace H := Option.bind_eq_some_iff.mp H
   obtain ⟨aH, az, H⟩ := H
   try dsimp -simprocs only at H
   have aI := am az
   clear az
   replace H := Option.bind_eq_some_iff.mp H
   obtain ⟨aJ, aA, H⟩ := H
   try dsimp -simprocs only at H
   have aK := am aA
   clear aA
   obtain rfl := Option.some.inj H
   go_enter Try.func78, Try.ntmps78
   try go_wp2_with (first | ((with_reducible refine gd 2 rfl ?_); refine bx 2 (cs := #[.int .i64 I, .int .i64 J, .int .i64 L, .int .i64 ab, .int .i64 ac]) (t := 56) ?_; intro X hg a4 hbox hb; have z := am hbox; have ax := gwb HB hg; replace HB := hs HB hb; clear hb hbox hg) | ((with_reducible refine gd 3 rfl ?_); refine bx 3 (cs := #[.int .i64 M, .int .i64 O, .int .i64 T, .int .i64 ad, .int .i64 ae]) (t := 56) ?_; intro Y hg au hbox hb; have D := am hbox; have ay := gwb HB hg; replace HB := hs HB hb; have af := nq z hg; have ag := nq' z hg; replace z := bb z hb rfl; clear hb hbox hg; have a5 := af.out; have a6 := ag.out; obtain ⟨a7, a8, a9, ba, bc⟩ := bc5 (w := au) z.out; have be := blk_frozen z.out; obtain ⟨bg, bh, bi, bj, bk⟩ := bc5 (w := au) D.out; have bl := blk_frozen D.out))
   replace z := bd z
   replace D := bd D
   replace HB := hd HB
   refine wp_region_bel (by kernel_rfl) (by kernel_rfl) ?_
   generalize au.drew = aa at z D HB ⊢
   have hbp_ := fun (p_ : Bel aa) => below_step HB.out p_.h
   have ah : ∀ p_ : Bel aa, p_.v.cell? ⟨X, 0, none⟩ = some (.int .i64 I) := fun p_ => cell_bel (cx z 0) p_
   have ai : ∀ p_ : Bel aa, p_.v.cell? ⟨X, 1, none⟩ = some (.int .i64 J) := fun p_ => cell_bel (cx z 1) p_
   have aj : ∀ p_ : Bel aa, p_.v.cell? ⟨X, 2, none⟩ = some (.int .i64 L) := fun p_ => cell_bel (cx z 2) p_
   have ak : ∀ p_ : Bel aa, p_.v.cell? ⟨X, 3, none⟩ = some (.int .i64 ab) := fun p_ => cell_bel (cx z 3) p_
   have al : ∀ p_ : Bel aa, p_.v.cell? ⟨X, 4, none⟩ = some (.int .i64 ac) := fun p_ => cell_bel (cx z 4) p_
   have an : ∀ p_ : Bel aa, p_.v.cell? ⟨Y, 0, none⟩ = some (.int .i64 M) := fun p_ => cell_bel (cx D 0) p_
   have ao : ∀ p_ : Bel aa, p_.v.cell? ⟨Y, 1, none⟩ = some (.int .i64 O) := fun p_ => cell_bel (cx D 1) p_
   have ap : ∀ p_ : Bel aa, p_.v.cell? ⟨Y, 2, none⟩ = some (.int .i64 T) := fun p_ => cell_bel (cx D 2) p_
   have aq : ∀ p_ : Bel aa, p_.v.cell? ⟨Y, 3, none⟩ = some (.int .i64 ad) := fun p_ => cell_bel (cx D 3) p_
   have ar : ∀ p_ : Bel aa, p_.v.cell? ⟨Y, 4, none⟩ = some (.int .i64 ae) := fun p_ => cell_bel (cx D 4) p_
   repeat (go_big_quiet_step (first
    | (with_reducible show Calls Try.prog 76 #[.agg #[.int .i64 ab, .int .i64 ac]] _ _; with_reducible exact calls_bel (spec_l2Code.calls ab ac aH _ aI.out))
    | (with_reducible show Calls Try.prog 76 #[.agg #[.int .i64 ad, .int .i64 ae]] _ _; with_reducible exact calls_bel (spec_l2Code.calls ad ae aJ _ aK.out))))
   refine wpQuiet_nil ?_
   intro bm hw'
   obtain ⟨⟨wq_, hb⟩, hw''⟩ := hw'
   subst hw''
   clear hbp_ ah ai aj ak al an ao ap aq ar
   replace z := bb z hb rfl
   replace D := bb D hb rfl
   replace HB := hs HB hb
   (try clear hb)
   (try clear hb2)
   (try clear hk)
   (try clear hi)
   try go_wp2
   go_ret
   exact ⟨eqr, bs HB.out⟩
 ·rw [if_neg c3] at H
  have aC : (I == M) = false := beq_eq_false_iff_ne.mpr c3
  have aD : (I != M) = true := bne_iff_ne.mpr c3
  obtain rfl := Option.some.inj H
  go_enter Try.func78, Try.ntmps78
  go_wp2_with (first | ((with_reducible refine gd 2 rfl ?_); refine bx 2 (cs := #[.int .i64 I, .int .i64 J, .int .i64 L, .int .i64 ab, .int .i64 ac]) (t := 56) ?_; intro X hg bn hbox hb; have z := am hbox; have ax := gwb HB hg; replace HB := hs HB hb; clear hb hbox hg) | ((with_reducible refine gd 3 rfl ?_); refine bx 3 (cs := #[.int .i64 M, .int .i64 O, .int .i64 T, .int .i64 ad, .int .i64 ae]) (t := 56) ?_; intro Y hg aB hbox hb; have D := am hbox; have ay := gwb HB hg; replace HB := hs HB hb; have af := nq z hg; have ag := nq' z hg; replace z := bb z hb rfl; clear hb hbox hg; have bo := af.out; have br := ag.out; obtain ⟨bt, bu, bv, bw, bz⟩ := bc5 (w := aB) z.out; have bA := blk_frozen z.out; obtain ⟨bB, bC, bD, bE, bF⟩ := bc5 (w := aB) D.out; have bG := blk_frozen D.out))
  go_ret
  exact ⟨eqr, bs HB.out⟩

end Go.Proofs.Ytohmemckdogljaa.QFnExactGraphDo
