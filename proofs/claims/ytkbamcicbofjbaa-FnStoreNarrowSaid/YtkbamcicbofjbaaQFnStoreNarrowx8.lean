/- Contracts of the Go functions that this law reaches: each does what its plain Lean function says. No condition. -/
import Derived.Test.YtkbamcicbofjbaaQFnStoreNarrowx0
import Derived.Test.YtkbamcicbofjbaaQFnStoreNarrowx2
import Derived.Test.YtkbamcicbofjbaaQFnStoreNarrowx5
import Derived.Test.YtkbamcicbofjbaaQFnStoreNarrowx6
import Derived.Test.YtkbamcicbofjbaaQFnStoreNarrowx7
namespace Go.Proofs.Ytkbamcicbofjbaa.QFnStoreNarrow
open Go.RowKit Go.Proofs.YtkbamcicbofjbaaW.PrintWords Go.Proofs.YtkbamcicbofjbaaW.PrintLast Go.Proofs.YtkbamcicbofjbaaW.PrintMore Go.Proofs.Ytkbamcicbofjbaa.Bl
attribute [local go_sem] max2_int min2_int max_two min_two max_three min_three max_four min_four   -- for this text's walks alone
set_option linter.unusedVariables false
set_option linter.unusedSimpArgs false
set_option maxHeartbeats 8000000
set_option maxRecDepth 100000

attribute [local go_sem high] eqA55
/-! ### spec_l4Up: function 44 -/
def spec_l4Up.l0 : Nat → List Int → Int → Option (Bool)
 | 0, _, _ => none
 | k + 1, y, s => if s < (y.length : Int) then (if 0 ≤ s then (if (rd y s) < 0 then (some false) else (if (rd y s) > 16383 then (some false) else (if s > 0 then (if 0 ≤ (wrap64 (s - 1)) then (if (wrap64 (s - 1)) < (y.length : Int) then (if (rd y (wrap64 (s - 1))) ≥ (rd y s) then (some false) else (spec_l4Up.l0 k y (wrap64 (s + 1)))) else (none)) else (none)) else (spec_l4Up.l0 k y (wrap64 (s + 1)))))) else (none)) else (some (decide ((y.length : Int) ≤ 127)))
def spec_l4Up.f (k : Nat) (l0 : List Int) : Option (Bool) := spec_l4Up.l0 k l0 0
theorem spec_l4Up.calls (k : Nat) (A0 : Option Addr) (c0 : Nat) (l0 : List Int) (r : Bool) (w : World) (ak : Kd.C (Kd.int .i64) w A0 l0.length l0) (al : l0.length ≤ c0) (h : spec_l4Up.f k l0 = some r) :
  Calls Try.prog 44 #[.slice A0 l0.length c0] w fun e w' => e = .returned (.bool r) ∧ Drawn0 w w' := by
 have J := am ak
 have ax := am al
 clear ak al
 have H := h; unfold spec_l4Up.f at H
 clear h
 have H' := am H
 clear H
 go_enter Try.func44, Try.ntmps44
 go_wp2
 repeat (go_quiet (fail); try go_wp2)
 go_loopg [3] k (fun kq v3 w' => ∃ (s : Int), v3 = .int .i64 s ∧ Aside0 (spec_l4Up.l0 kq l0 s = some r) ∧ Aside0 (kq ≤ k) ∧ Drawn0 w w')
 case atStart => exact ⟨(0), eqs, H', ⟨Nat.le_refl _⟩, drs⟩
 case round =>
  clear H'
  obtain ⟨s, rfl, HA, ac, ⟨m1, rfl⟩⟩ := hrel
  cases gk with
  | zero => exact absurd HA.out (by simp [spec_l4Up.l0])
  | succ k1 =>
   have H := HA.out
   clear HA
   simp only [spec_l4Up.l0] at H
   by_cases c2 : s < (l0.length : Int)
   ·rw [if_pos c2] at H
    have ao : decide (s < (l0.length : Int)) = true := decide_eq_true c2
    clear c2
    by_cases c3 : 0 ≤ s
    ·rw [if_pos c3] at H
     have ay : decide (0 ≤ s) = true := decide_eq_true c3
     clear c3
     by_cases c4 : (rd l0 s) < 0
     ·rw [if_pos c4] at H
      have ap : decide ((rd l0 s) < 0) = true := decide_eq_true c4
      clear c4
      obtain rfl := Option.some.inj H
      have y : 0 ≤ (s : Int) := oda
      have z : s < (l0.length : Int) := oda
      obtain ⟨L, M, ad⟩ := Kd.at_int J.out s y z
      cases M
      replace y := eq_true y
      replace z := eq_true z
      go_wp2
      repeat (go_quiet (fail); try go_wp2)
      go_ret
      exact ⟨eqs, drs⟩
     ·rw [if_neg c4] at H
      have ap : decide ((rd l0 s) < 0) = false := decide_eq_false c4
      clear c4
      by_cases c5 : (rd l0 s) > 16383
      ·rw [if_pos c5] at H
       have aq : decide (16383 < (rd l0 s)) = true := decide_eq_true c5
       clear c5
       obtain rfl := Option.some.inj H
       have y : 0 ≤ (s : Int) := oda
       have z : s < (l0.length : Int) := oda
       obtain ⟨L, M, ad⟩ := Kd.at_int J.out s y z
       cases M
       replace y := eq_true y
       replace z := eq_true z
       have G : 0 ≤ (s : Int) := oda
       have I : s < (l0.length : Int) := oda
       obtain ⟨O, T, af⟩ := Kd.at_int J.out s G I
       obtain rfl : L = O := (by injection T)
       replace G := eq_true G
       replace I := eq_true I
       go_wp2
       repeat (go_quiet (fail); try go_wp2)
       go_ret
       exact ⟨eqs, drs⟩
      ·rw [if_neg c5] at H
       have aq : decide (16383 < (rd l0 s)) = false := decide_eq_false c5
       clear c5
       by_cases c6 : s > 0
       ·rw [if_pos c6] at H
        have ar : decide (0 < s) = true := decide_eq_true c6
        clear c6
        obtain ⟨D, ae⟩ : ∃ j_ : Int, (wrap64 (s - 1)) = j_ := ⟨_, rfl⟩
        replace H : (if 0 ≤ (D) then (if (D) < (l0.length : Int) then (if (rd l0 (D)) ≥ (rd l0 s) then (some false) else (spec_l4Up.l0 k1 l0 (wrap64 (s + 1)))) else (none)) else (none)) = some r := by first | (rw [ae] at H; exact H) | (simp only [ae] at H ⊢; exact H)
        have az : (IntKind.i64.wrap (s - 1)) = D := (i64_w _).trans ae
        by_cases c8 : 0 ≤ (D)
        ·rw [if_pos c8] at H
         have aA : decide (0 ≤ (D)) = true := decide_eq_true c8
         clear c8
         by_cases c9 : (D) < (l0.length : Int)
         ·rw [if_pos c9] at H
          have aC : decide ((D) < (l0.length : Int)) = true := decide_eq_true c9
          clear c9
          by_cases ab : (rd l0 (D)) ≥ (rd l0 s)
          ·rw [if_pos ab] at H
           have au : decide ((rd l0 s) ≤ (rd l0 (D))) = true := decide_eq_true ab
           clear ab
           obtain rfl := Option.some.inj H
           have y : 0 ≤ (s : Int) := oda
           have z : s < (l0.length : Int) := oda
           obtain ⟨L, M, ad⟩ := Kd.at_int J.out s y z
           cases M
           replace y := eq_true y
           replace z := eq_true z
           have G : 0 ≤ (s : Int) := oda
           have I : s < (l0.length : Int) := oda
           obtain ⟨O, T, af⟩ := Kd.at_int J.out s G I
           obtain rfl : L = O := (by injection T)
           replace G := eq_true G
           replace I := eq_true I
           have X : 0 ≤ ((D) : Int) := oda
           have Y : (D) < (l0.length : Int) := oda
           obtain ⟨ag, ah, av⟩ := Kd.at_int J.out (D) X Y
           obtain rfl : L = ag := (by injection ah)
           replace X := eq_true X
           replace Y := eq_true Y
           have Z : 0 ≤ (s : Int) := oda
           have aa : s < (l0.length : Int) := oda
           obtain ⟨ai, aj, aw⟩ := Kd.at_int J.out s Z aa
           obtain rfl : L = ai := (by injection aj)
           replace Z := eq_true Z
           replace aa := eq_true aa
           go_wp2
           repeat (go_quiet (fail); try go_wp2)
           go_ret
           exact ⟨by first | rfl | (simp; done) | (simp only [← ae] <;> (first | rfl | simp)) | (simp [*]; done), drs⟩
          ·rw [if_neg ab] at H
           have au : decide ((rd l0 s) ≤ (rd l0 (D))) = false := decide_eq_false ab
           clear ab
           have H' := am H
           clear H
           have y : 0 ≤ (s : Int) := oda
           have z : s < (l0.length : Int) := oda
           obtain ⟨L, M, ad⟩ := Kd.at_int J.out s y z
           cases M
           replace y := eq_true y
           replace z := eq_true z
           have G : 0 ≤ (s : Int) := oda
           have I : s < (l0.length : Int) := oda
           obtain ⟨O, T, af⟩ := Kd.at_int J.out s G I
           obtain rfl : L = O := (by injection T)
           replace G := eq_true G
           replace I := eq_true I
           have X : 0 ≤ ((D) : Int) := oda
           have Y : (D) < (l0.length : Int) := oda
           obtain ⟨ag, ah, av⟩ := Kd.at_int J.out (D) X Y
           obtain rfl : L = ag := (by injection ah)
           replace X := eq_true X
           replace Y := eq_true Y
           have Z : 0 ≤ (s : Int) := oda
           have aa : s < (l0.length : Int) := oda
           obtain ⟨ai, aj, aw⟩ := Kd.at_int J.out s Z aa
           obtain rfl : L = ai := (by injection aj)
           replace Z := eq_true Z
           replace aa := eq_true aa
           go_wp2
           repeat (go_quiet (fail); try go_wp2)
           go_roundg k1
           case measure => have := ac.out; omega
           case rel => exact ⟨(wrap64 (s + 1)), eqs, H', ⟨by have := ac.out; omega⟩, drs⟩
         ·rw [if_neg c9] at H
          exact absurd H (by simp)
        ·rw [if_neg c8] at H
         exact absurd H (by simp)
       ·rw [if_neg c6] at H
        have ar : decide (0 < s) = false := decide_eq_false c6
        clear c6
        have H' := am H
        clear H
        have y : 0 ≤ (s : Int) := oda
        have z : s < (l0.length : Int) := oda
        obtain ⟨L, M, ad⟩ := Kd.at_int J.out s y z
        cases M
        replace y := eq_true y
        replace z := eq_true z
        have G : 0 ≤ (s : Int) := oda
        have I : s < (l0.length : Int) := oda
        obtain ⟨O, T, af⟩ := Kd.at_int J.out s G I
        obtain rfl : L = O := (by injection T)
        replace G := eq_true G
        replace I := eq_true I
        go_wp2
        repeat (go_quiet (fail); try go_wp2)
        go_roundg k1
        case measure => have := ac.out; omega
        case rel => exact ⟨(wrap64 (s + 1)), eqs, H', ⟨by have := ac.out; omega⟩, drs⟩
    ·rw [if_neg c3] at H
     exact absurd H (by simp)
   ·rw [if_neg c2] at H
    have ao : decide (s < (l0.length : Int)) = false := decide_eq_false c2
    clear c2
    obtain rfl := Option.some.inj H
    go_wp2
    repeat (go_quiet (fail); try go_wp2)
    go_ret
    exact ⟨eqs, drs⟩

/-! ### spec_PackRow: function 29 -/
def spec_PackRow.l0 : Nat → List Int → ByteArray → Int → Int → Option (ByteArray)
 | 0, _, _, _, _ => none
 | k + 1, y, z, G, s => if s < (y.length : Int) then (if 0 ≤ s then ((spec_PackNum.f k (wrap64 ((wrap64 ((rd y s) - G)) - 1))).bind fun D => (if z.size + D.size ≤ 9223372036854775807 then (spec_PackRow.l0 k y (z ++ D) (rd y s) (wrap64 (s + 1))) else (none))) else (none)) else (some z)
def spec_PackRow.f (k : Nat) (l0 : List Int) : Option (ByteArray) := (spec_l4Up.f k l0).bind fun s => (if s = true then ((spec_PackNum.f k (l0.length : Int)).bind fun y => (spec_PackRow.l0 k l0 y (-1) 0)) else (some (⟨#[]⟩ : ByteArray)))
theorem spec_PackRow.calls (k : Nat) (L : Option Addr) (M : Nat) (l0 : List Int) (r : ByteArray) (w : World) (af : Kd.C (Kd.int .i64) w L l0.length l0) (ag : l0.length ≤ M) (h : spec_PackRow.f k l0 = some r) :
  Calls Try.prog 29 #[.slice L l0.length M] w fun e w' => e = .returned (.string r) ∧ Below w.heap.size w w' := by
 have T := am af
 have ah := am ag
 clear af ag
 have HB := am (Below.refl w.heap.size w)
 have H := h; unfold spec_PackRow.f at H
 clear h
 replace H := Option.bind_eq_some_iff.mp H
 obtain ⟨ap, ai, H⟩ := H
 try dsimp -simprocs only at H
 have A2 := am ai
 clear ai
 by_cases D : ap = true
 ·subst D
  replace H : ((spec_PackNum.f k (l0.length : Int)).bind fun X => (spec_PackRow.l0 k l0 X (-1) 0)) = some r := by rw [if_pos rfl] at H; exact H
  replace H := Option.bind_eq_some_iff.mp H
  obtain ⟨X, aj, H⟩ := H
  try dsimp -simprocs only at H
  have A4 := am aj
  clear aj
  have H' := am H
  clear H
  go_enter Try.func29, Try.ntmps29
  go_wp2_with (first | ((with_reducible refine gc 44 rfl ?_); refine gl 7 Try.func44 #[.slice L l0.length M] ?_; (with_reducible refine (spec_l4Up.calls k _ _ l0 true _ ?Z ?aa A2.out).mono ?_); (case Z => repeat (first | exact T.out | (with_reducible refine Kd.C_alloc ?_ _) | (with_reducible refine Kd.C_drewN ?_ _) | (with_reducible refine Kd.C_drew ?_))); (case aa => exact ah.out); rintro e w' ⟨rfl, ⟨nd, rfl⟩⟩; refine ⟨_, rfl, ?_⟩) | ((with_reducible refine gc 30 rfl ?_); refine gl 11 Try.func30 #[.int .i64 (l0.length : Int)] ?_; (with_reducible refine (spec_PackNum.calls k (l0.length : Int) X _ A4.out).mono ?_); rintro e w5 ⟨rfl, hb⟩; refine ⟨_, rfl, ?_⟩; replace HB := hs HB hb; (try clear hb)))
  go_loopg [3, 4, 5] k (fun kq v3 v4 v5 w' => ∃ (y : ByteArray) (G : Int) (s : Int), v3 = .string y ∧ v4 = .int .i64 G ∧ v5 = .int .i64 s ∧ Aside0 (spec_PackRow.l0 kq l0 y G s = some r) ∧ Aside0 (kq ≤ k) ∧ Aside0 (Below w.heap.size w w'))
  case atStart => exact ⟨(X), ((-1)), (0), eqs, eqs, eqs, H', ⟨Nat.le_refl _⟩, ⟨bs HB.out⟩⟩
  case round =>
   clear H'
   try clear c2
   try clear p2
   try clear D
   try clear c4
   obtain ⟨y, G, s, rfl, rfl, rfl, HA, ak, HB⟩ := hrel
   cases gk with
   | zero => exact absurd HA.out (by simp [spec_PackRow.l0])
   | succ k1 =>
    have H := HA.out
    clear HA
    simp only [spec_PackRow.l0] at H
    by_cases z : s < (l0.length : Int)
    ·rw [if_pos z] at H
     have aq : decide (s < (l0.length : Int)) = true := decide_eq_true z
     clear z
     by_cases Y : 0 ≤ s
     ·rw [if_pos Y] at H
      have ax : decide (0 ≤ s) = true := decide_eq_true Y
      clear Y
      replace H := Option.bind_eq_some_iff.mp H
      obtain ⟨I, al, H⟩ := H
      try dsimp -simprocs only at H
      have A8 := am al
      clear al
      by_cases J : y.size + I.size ≤ 9223372036854775807
      ·rw [if_pos J] at H
       have ay := eq_true J
       have az : decide (y.size + I.size ≤ 9223372036854775807) = true := decide_eq_true J
       try have aA : (9223372036854775807 < y.size + I.size) = False := eq_false (Nat.not_lt.2 J)
       have H' := am H
       clear H
       have ab : 0 ≤ (s : Int) := oda
       have ac : s < (l0.length : Int) := oda
       obtain ⟨ar, au, an⟩ := Kd.at_int T.out s ab ac
       cases au
       replace an := cb HB an
       replace ab := eq_true ab
       replace ac := eq_true ac
       go_wp2_with (first | ((with_reducible refine gc 30 rfl ?_); refine gl 26 Try.func30 #[.int .i64 (wrap64 ((wrap64 ((rd l0 s) - G)) - 1))] ?_; (with_reducible refine (spec_PackNum.calls k1 (wrap64 ((wrap64 ((rd l0 s) - G)) - 1)) I _ A8.out).mono ?_); rintro e aC ⟨rfl, hb⟩; refine ⟨_, rfl, ?_⟩; replace HB := hs HB hb; (try clear hb); have ad : 0 ≤ (s : Int) := oda; have ae : s < (l0.length : Int) := oda; obtain ⟨av, aw, ao⟩ := Kd.at_int T.out s ad ae; obtain rfl : ar = av := (by injection aw); replace ao := cb HB ao; replace ad := eq_true ad; replace ae := eq_true ae))
       go_roundg k1
       case measure => have := ak.out; omega
       case rel => exact ⟨(y ++ I), (rd l0 s), (wrap64 (s + 1)), eqs, eqs, eqs, H', ⟨by have := ak.out; omega⟩, ⟨bs HB.out⟩⟩
      ·rw [if_neg J] at H
       exact absurd H (by simp)
     ·rw [if_neg Y] at H
      exact absurd H (by simp)
    ·rw [if_neg z] at H
     have aq : decide (s < (l0.length : Int)) = false := decide_eq_false z
     clear z
     obtain rfl := Option.some.inj H
     go_wp2
     go_ret
     exact ⟨eqr, bs HB.out⟩
 ·replace D := Bool.eq_false_iff.mpr D
  subst D
  have H1 : (some (⟨#[]⟩ : ByteArray)) = some r := by rw [if_neg (show ¬ (false = true) by decide)] at H; exact H
  clear H
  have H := H1
  clear H1
  obtain rfl := Option.some.inj H
  go_enter Try.func29, Try.ntmps29
  go_wp2_with (first | ((with_reducible refine gc 44 rfl ?_); refine gl 7 Try.func44 #[.slice L l0.length M] ?_; (with_reducible refine (spec_l4Up.calls k _ _ l0 false _ ?Z ?aa A2.out).mono ?_); (case Z => repeat (first | exact T.out | (with_reducible refine Kd.C_alloc ?_ _) | (with_reducible refine Kd.C_drewN ?_ _) | (with_reducible refine Kd.C_drew ?_))); (case aa => exact ah.out); rintro e w' ⟨rfl, ⟨nd, rfl⟩⟩; refine ⟨_, rfl, ?_⟩))
  go_ret
  exact ⟨eqr, bs HB.out⟩

/-! ### spec_l4Codes: function 32 -/
def spec_l4Codes.l0 : Nat → List (S55) → List Int → Int → Option (List Int)
 | 0, _, _, _ => none
 | k + 1, y, z, s => if s < (y.length : Int) then (if 0 ≤ s then ((spec_l2Code.f ((rd_T55 y s).f0) ((rd_T55 y s).f1)).bind fun D => (if z.length < 17592186044416 then (spec_l4Codes.l0 k y (z ++ [D]) (wrap64 (s + 1))) else (none))) else (none)) else (some z)
def spec_l4Codes.f (k : Nat) (l0 : List (S55)) : Option (List Int) := spec_l4Codes.l0 k l0 (([] : List Int)) 0
theorem spec_l4Codes.calls (k : Nat) (Z : Option Addr) (c0 : Nat) (l0 : List (S55)) (r : List Int) (w : World) (aa : Kd.C k55 w Z l0.length l0) (ab : l0.length ≤ c0) (h : spec_l4Codes.f k l0 = some r) :
  Calls Try.prog 32 #[.slice Z l0.length c0] w fun e w' => ∃ ac : Value, e = .returned (ac) ∧ Kd.R (Kd.int .i64) 3 w' w.heap.size (fun _ => True) ac r ∧ Below w.heap.size w w' := by
 have hu55 := Try.underlying55
 have ak := am aa
 have au := am ab
 clear aa ab
 have HB := am (Below.refl w.heap.size w)
 have H := h; unfold spec_l4Codes.f at H
 clear h
 obtain ⟨ad, O⟩ : ∃ y_ : List Int, y_ = (([] : List Int)) := ⟨_, rfl⟩
 replace H : (spec_l4Codes.l0 k l0 ad 0) = some r := by first | (rw [O]; exact H) | exact H
 have ae := am O
 clear O
 have H' := am H
 clear H
 go_enter Try.func32, Try.ntmps32
 go_wp2_with (first | ((with_reducible refine gd 5 rfl ?_); refine Kd.R_lit (Kd.int .i64) _ 3 ?hg (N := 5) ?hd (xs := ([] : List Int)) (inner := []) (ok := fun _ => True) (okp := fun _ => True) ?hr ?hp (fun _ hk => hk) trivial (Below.refl _ _) (Nat.le_refl _) (by simp) ?_; (case hd => rfl); (case hg => rfl); (case hr => first | (go_simp; done) | (go_simp; rfl)); (case hp => exact (Reps.none _ _)); intro av w2 G hb hg_ hnew_; clear hg_ hnew_; (first | rw [← ae.out] at G | (simp only [Int.reduceToNat] at G; rw [← ae.out] at G)); have al := am (Kd.R_lower G (below_size (bs HB.out))); replace HB := hs HB hb; clear hb G))
 go_loopg [3, 4] k (fun kq v3 v4 w' => ∃ (z : List Int) (s : Int), v4 = .int .i64 s ∧ Aside0 (spec_l4Codes.l0 kq l0 z s = some r) ∧ Aside0 (kq ≤ k) ∧ Aside0 (Kd.R (Kd.int .i64) 3 w' w.heap.size (fun _ => True) v3 z) ∧ Aside0 (Below w.heap.size w w'))
 case atStart => exact ⟨(ad), (0), eqs, H', ⟨Nat.le_refl _⟩, ⟨rl al.out⟩, ⟨bs HB.out⟩⟩
 case round =>
  clear H'
  try clear p2
  try clear c3
  obtain ⟨z, s, rfl, HA, af, I, HB⟩ := hrel
  cases gk with
  | zero => exact absurd HA.out (by simp [spec_l4Codes.l0])
  | succ k1 =>
   have H := HA.out
   clear HA
   simp only [spec_l4Codes.l0] at H
   by_cases D : s < (l0.length : Int)
   ·rw [if_pos D] at H
    have an : decide (s < (l0.length : Int)) = true := decide_eq_true D
    clear D
    by_cases J : 0 ≤ s
    ·rw [if_pos J] at H
     have aw : decide (0 ≤ s) = true := decide_eq_true J
     clear J
     replace H := Option.bind_eq_some_iff.mp H
     obtain ⟨L, ag, H⟩ := H
     try dsimp -simprocs only at H
     have A6 := am ag
     clear ag
     by_cases M : z.length < 17592186044416
     ·rw [if_pos M] at H
      have ao := am M
      clear M
      obtain ⟨ah, T⟩ : ∃ y_ : List Int, y_ = (z ++ [L]) := ⟨_, rfl⟩
      replace H : (spec_l4Codes.l0 k1 l0 ah (wrap64 (s + 1))) = some r := by first | (rw [T]; exact H) | exact H
      have ap := am T
      clear T
      have H' := am H
      clear H
      have X : 0 ≤ (s : Int) := oda
      have Y : s < (l0.length : Int) := oda
      obtain ⟨ax, aq, ai, aj⟩ := at_T55 ak.out s X Y
      cases aq
      replace ai := cb HB ai
      replace aj := cb HB aj
      replace X := eq_true X
      replace Y := eq_true Y
      go_wp2_with (first | ((with_reducible refine gc 31 rfl ?_); refine gl 17 Try.func31 #[.agg #[.int .i64 ((rd_T55 l0 s).f0), .int .i64 ((rd_T55 l0 s).f1)]] ?_; (with_reducible refine (spec_l2Code.calls ((rd_T55 l0 s).f0) ((rd_T55 l0 s).f1) L _ A6.out).mono ?_); rintro e w8 ⟨rfl, hb⟩; refine ⟨_, rfl, ?_⟩; replace I := rb I hb; replace HB := hs HB hb; (try clear hb)) | ((with_reducible refine gate_builtin (b := .append) (xs := #[.tmp 12, .tmp 18]) rfl ?_); at_builtin; refine Kd.R_append (Kd.int .i64) (w0 := w) w.heap.size rfl (.tmp 12) (.tmp 18) 49 3 (.int .i64 0) 8 rfl Try.underlying49 info3 rfl (by decide) (by omega) u3 z L [.int .i64 L] (fun _ => True) (fun _ => False) rfl rfl ?aP (fun _ hk => hk.elim) ?aF ?aO ?aB ?aS ?aL ?_; (case aP => exact rfl); (case aB => exact (bs HB.out)); (case aF => exact (fun _ _ => trivial)); (case aO => exact (rl I.out)); (case aS => exact (below_size (bs HB.out))); (case aL => have := ao.out; omega); intro ay w9 ho hb hg hat; rw [← ap.out] at ho; replace HB := am hb; have ar := am ho; clear I; clear ho hb hg hat))
      go_roundg k1
      case measure => have := af.out; omega
      case rel => exact ⟨(ah), (wrap64 (s + 1)), eqs, H', ⟨by have := af.out; omega⟩, ⟨rl ar.out⟩, ⟨bs HB.out⟩⟩
     ·rw [if_neg M] at H
      exact absurd H (by simp)
    ·rw [if_neg J] at H
     exact absurd H (by simp)
   ·rw [if_neg D] at H
    have an : decide (s < (l0.length : Int)) = false := decide_eq_false D
    clear D
    obtain rfl := Option.some.inj H
    go_wp2
    go_ret
    exact ⟨_, eqr, by (with_reducible repeat (first | apply Kd.R_alloc | apply Kd.R_drewN | apply Kd.R_drew)); exact I.out, bs HB.out⟩

/-! ### spec_l2Near: function 33 -/
mutual
def spec_l2Near.l0 : Nat → Int → List (S55) → List (S57) → Int → Int → List (S55) → List (S57) → Option ((List (S55)))
 | 0, _, _, _, _, _, _, _ => none
 | k + 1, s, I, y, z, D, G, J => if s < (y.length : Int) then (if 0 ≤ s then (if (((rd_T57 y s).f1.f0) == z && (((rd_T57 y s).f1.f1) == D)) = true then (spec_l2Near.j1 k s I y z D G J ((rd_T57 y s).f2.f0) ((rd_T57 y s).f2.f1)) else (if (!(((rd_T57 y s).f2.f0) == z) || (!(((rd_T57 y s).f2.f1) == D))) = true then (spec_l2Near.l0 k (wrap64 (s + 1)) I y z D G J) else (spec_l2Near.j1 k s I y z D G J ((rd_T57 y s).f1.f0) ((rd_T57 y s).f1.f1)))) else (none)) else ((some (([] : List (S55)) : List (S55))).bind fun L => (if L.length + G.length < 8796093022208 then (some (L ++ G)) else (none)))
def spec_l2Near.j1 : Nat → Int → List (S55) → List (S57) → Int → Int → List (S55) → List (S57) → Int → Int → Option ((List (S55)))
 | 0, _, _, _, _, _, _, _, _, _ => none
 | k + 1, z, D, G, I, J, s, y, L, M => (spec_l2At.f k s y L M).bind fun T => (if T < 0 then ((spec_l2PutNode.f k s y L M).bind fun O => (spec_l2Near.l0 k (wrap64 (z + 1)) D G I J O.1 O.2)) else (spec_l2Near.l0 k (wrap64 (z + 1)) D G I J s y))
end
def spec_l2Near.f (k : Nat) (s : List (S55)) (y : List (S57)) (z : Int) (D : Int) : Option ((List (S55))) := spec_l2Near.l0 k 0 s y z D ([] : List (S55)) ([] : List (S57))
theorem spec_l2Near.calls (k : Nat) (a6 : Option Addr) (a7 : Nat) (ar : List (S55)) (bi : Option Addr) (a8 : Nat) (z : List (S57)) (X : Int) (Y : Int) (r : List (S55)) (w : World) (cl : Kd.C k55 w a6 ar.length ar) (cm : ar.length ≤ a7) (cn : Kd.C k57 w bi z.length z) (co : z.length ≤ a8) (h : spec_l2Near.f k ar z X Y = some r) :
  Calls Try.prog 33 #[.agg #[.slice a6 ar.length a7, .slice bi z.length a8], .agg #[.int .i64 X, .int .i64 Y]] w fun e w' => ∃ cp : Value, e = .returned (cp) ∧ Kd.R k55 55 w' w.heap.size (fun _ => True) cp r ∧ Below w.heap.size w w' := by
 have hu38 := Try.underlying38
 have hu55 := Try.underlying55
 have dV := am cl
 have dW := am cm
 clear cl cm
 have bH := am cn
 have dX := am co
 clear cn co
 have HB := am (Below.refl w.heap.size w)
 have H := h; unfold spec_l2Near.f at H
 clear h
 have H' := am H
 clear H
 go_enter Try.func33, Try.ntmps33
 go_wp2_with (first | ((with_reducible refine gd 2 rfl ?_); refine bx 2 (cs := #[.slice a6 ar.length a7, .slice bi z.length a8]) (t := 38) ?_; intro bI hg w3 hbox hb; have D := am hbox; have ct := gwb HB hg; replace HB := hs HB hb; clear hb hbox hg) | ((with_reducible refine gd 3 rfl ?_); refine bx 3 (cs := #[.int .i64 X, .int .i64 Y]) (t := 55) ?_; intro aa hg w4 hbox hb; have I := am hbox; have cu := gwb HB hg; replace HB := hs HB hb; have a9 := nq D hg; have ba := nq' D hg; replace D := bb D hb rfl; clear hb hbox hg) | ((with_reducible refine gd 5 rfl ?_); refine bx 5 (cs := #[.slice none 0 0, .slice none 0 0]) (t := 38) ?_; intro bJ hg w5 hbox hb; have J := am hbox; have cv := gwb HB hg; replace HB := hs HB hb; have au := nq D hg; have av := nq' D hg; replace D := bb D hb rfl; have an := nq I hg; have ao := nq' I hg; replace I := bb I hb rfl; clear hb hbox hg; have cy := av.out; have cz := au.out; have cA := ao.out; have cB := an.out; obtain ⟨bK, bL⟩ := bc2 (w := w5) J.out; have bM := blk_frozen J.out))
 repeat (go_quiet (first | ((with_reducible refine gd 2 rfl ?_); refine bx 2 (cs := #[.slice a6 ar.length a7, .slice bi z.length a8]) (t := 38) ?_; intro bI hg w3 hbox hb; have D := am hbox; have ct := gwb HB hg; replace HB := hs HB hb; clear hb hbox hg) | ((with_reducible refine gd 3 rfl ?_); refine bx 3 (cs := #[.int .i64 X, .int .i64 Y]) (t := 55) ?_; intro aa hg w4 hbox hb; have I := am hbox; have cu := gwb HB hg; replace HB := hs HB hb; have a9 := nq D hg; have ba := nq' D hg; replace D := bb D hb rfl; clear hb hbox hg) | ((with_reducible refine gd 5 rfl ?_); refine bx 5 (cs := #[.slice none 0 0, .slice none 0 0]) (t := 38) ?_; intro bJ hg w5 hbox hb; have J := am hbox; have cv := gwb HB hg; replace HB := hs HB hb; have au := nq D hg; have av := nq' D hg; replace D := bb D hb rfl; have an := nq I hg; have ao := nq' I hg; replace I := bb I hb rfl; clear hb hbox hg; have cy := av.out; have cz := au.out; have cA := ao.out; have cB := an.out; obtain ⟨bK, bL⟩ := bc2 (w := w5) J.out; have bM := blk_frozen J.out)); try go_wp2_with (first | ((with_reducible refine gd 2 rfl ?_); refine bx 2 (cs := #[.slice a6 ar.length a7, .slice bi z.length a8]) (t := 38) ?_; intro bI hg w3 hbox hb; have D := am hbox; have ct := gwb HB hg; replace HB := hs HB hb; clear hb hbox hg) | ((with_reducible refine gd 3 rfl ?_); refine bx 3 (cs := #[.int .i64 X, .int .i64 Y]) (t := 55) ?_; intro aa hg w4 hbox hb; have I := am hbox; have cu := gwb HB hg; replace HB := hs HB hb; have a9 := nq D hg; have ba := nq' D hg; replace D := bb D hb rfl; clear hb hbox hg) | ((with_reducible refine gd 5 rfl ?_); refine bx 5 (cs := #[.slice none 0 0, .slice none 0 0]) (t := 38) ?_; intro bJ hg w5 hbox hb; have J := am hbox; have cv := gwb HB hg; replace HB := hs HB hb; have au := nq D hg; have av := nq' D hg; replace D := bb D hb rfl; have an := nq I hg; have ao := nq' I hg; replace I := bb I hb rfl; clear hb hbox hg; have cy := av.out; have cz := au.out; have cA := ao.out; have cB := an.out; obtain ⟨bK, bL⟩ := bc2 (w := w5) J.out; have bM := blk_frozen J.out)))
 go_loopg [6] k (fun kq v6 w' => ∃ (y : Int) (T : List (S55)) (ab : List (S57)) (bj : Value) (bk : Value), v6 = .int .i64 y ∧ Aside0 (spec_l2Near.l0 kq y ar z X Y T ab = some r) ∧ Aside0 (kq ≤ k) ∧ Aside0 (Kd.R k55 55 w' w.heap.size (fun k_ => k_ ≠ aa) bj T) ∧ Aside0 (Kd.R k57 57 w' w.heap.size (fun _ => True) bk ab) ∧ Aside0 (w'.heap[bI]? = some (.cells #[(.slice a6 ar.length a7), (.slice bi z.length a8)] 38 (0, 0))) ∧ Aside0 (w'.heap[aa]? = some (.cells #[.int .i64 X, .int .i64 Y] 55 (0, 0))) ∧ Aside0 (w'.heap[bJ]? = some (.cells #[bj, bk] 38 (0, 0))) ∧ Aside0 (Below w.heap.size w w'))
 case atStart => exact ⟨(0), (([] : List (S55))), (([] : List (S57))), (.slice none 0 0), (.slice none 0 0), eqs, H', ⟨Nat.le_refl _⟩, ⟨by first | exact Kd.R_nil _ _ _ _ _ | exact Kd.N_nil _ _ _ _ _ | exact Kd.V_nil _ _ _ _ _ | exact Kd.Q_nil _ _ _ _ _ | exact Kd.S_nil _ _ _ _ _⟩, ⟨by first | exact Kd.R_nil _ _ _ _ _ | exact Kd.N_nil _ _ _ _ _ | exact Kd.V_nil _ _ _ _ _ | exact Kd.Q_nil _ _ _ _ _ | exact Kd.S_nil _ _ _ _ _⟩, ⟨bf D.out⟩, ⟨bf I.out⟩, ⟨by (with_reducible repeat (first | refine blk_drewN ?_ _ | refine blk_drew ?_ | refine blk_alloc ?_ _)); refine blk_put (cs := #[.slice none 0 0, .slice none 0 0]) ?_ 1 _ rfl; (with_reducible repeat (first | refine blk_drewN ?_ _ | refine blk_drew ?_ | refine blk_alloc ?_ _)); refine blk_put (cs := #[.slice none 0 0, .slice none 0 0]) ?_ 0 _ rfl; exact bf J.out⟩, ⟨bs HB.out⟩⟩
 case round =>
  clear H'
  try clear p2
  try clear c3
  try clear c6
  try clear c7
  try clear bK bL
  try clear bM
  obtain ⟨y, T, ab, bj, bk, rfl, HA, aI, L, M, D, I, J, HB⟩ := hrel
  cases gk with
  | zero => exact absurd HA.out (by simp [spec_l2Near.l0])
  | succ k1 =>
   have H := HA.out
   clear HA
   simp only [spec_l2Near.l0] at H
   by_cases c9 : y < (z.length : Int)
   ·rw [if_pos c9] at H
    have cC : decide (y < (z.length : Int)) = true := decide_eq_true c9
    clear c9
    by_cases bv : 0 ≤ y
    ·rw [if_pos bv] at H
     have dj : decide (0 ≤ y) = true := decide_eq_true bv
     clear bv
     have bV := am H
     clear H
     have dY := a9.out
     have dZ := ba.out
     have d0 := au.out
     have d1 := av.out
     obtain ⟨dk, dl⟩ := bc2 (w := wr) D.out
     have dm := blk_frozen D.out
     have bN : 0 ≤ (y : Int) := oda
     have bO : y < (z.length : Int) := oda
     obtain ⟨az, dp, bW, bX, bY, bZ, b0⟩ := at_T57 bH.out y bN bO
     cases dp
     replace bW := cb HB bW
     replace bX := cb HB bX
     replace bY := cb HB bY
     replace bZ := cb HB bZ
     replace b0 := cb HB b0
     replace bN := eq_true bN
     replace bO := eq_true bO
     go_upto_if 24 with (first | ((with_reducible refine gd 7 rfl ?_); refine bx 7 (cs := #[.int .i64 0, .int .i64 0]) (t := 55) ?_; intro G hg Z hbox hb; replace L := am (Kd.R_below (Kd.R_elderB (rl L.out) G (Nat.le_of_eq hg.symm)) hb); replace M := rb M hb; have O := am hbox; have aJ := gwb HB hg; replace HB := hs HB hb; have aA := nq D hg; have aC := nq' D hg; replace D := bb D hb rfl; have aD := nq I hg; have aE := nq' I hg; replace I := bb I hb rfl; have aK := nq J hg; have aM := nq' J hg; replace J := bb J hb rfl; clear hb hbox hg; have cD := aC.out; have cE := aA.out; have cF := aE.out; have cG := aD.out; have cH := aM.out; have cI := aK.out; obtain ⟨b1, b2⟩ := bc2 (w := Z) O.out; have b3 := blk_frozen O.out; have cJ := an.out; have cK := ao.out; obtain ⟨b4, b5⟩ := bc2 (w := Z) I.out; have b6 := blk_frozen I.out))
     repeat (go_quiet (first | ((with_reducible refine gd 7 rfl ?_); refine bx 7 (cs := #[.int .i64 0, .int .i64 0]) (t := 55) ?_; intro G hg Z hbox hb; replace L := am (Kd.R_below (Kd.R_elderB (rl L.out) G (Nat.le_of_eq hg.symm)) hb); replace M := rb M hb; have O := am hbox; have aJ := gwb HB hg; replace HB := hs HB hb; have aA := nq D hg; have aC := nq' D hg; replace D := bb D hb rfl; have aD := nq I hg; have aE := nq' I hg; replace I := bb I hb rfl; have aK := nq J hg; have aM := nq' J hg; replace J := bb J hb rfl; clear hb hbox hg; have cD := aC.out; have cE := aA.out; have cF := aE.out; have cG := aD.out; have cH := aM.out; have cI := aK.out; obtain ⟨b1, b2⟩ := bc2 (w := Z) O.out; have b3 := blk_frozen O.out; have cJ := an.out; have cK := ao.out; obtain ⟨b4, b5⟩ := bc2 (w := Z) I.out; have b6 := blk_frozen I.out)); go_upto_if 24 with (first | ((with_reducible refine gd 7 rfl ?_); refine bx 7 (cs := #[.int .i64 0, .int .i64 0]) (t := 55) ?_; intro G hg Z hbox hb; replace L := am (Kd.R_below (Kd.R_elderB (rl L.out) G (Nat.le_of_eq hg.symm)) hb); replace M := rb M hb; have O := am hbox; have aJ := gwb HB hg; replace HB := hs HB hb; have aA := nq D hg; have aC := nq' D hg; replace D := bb D hb rfl; have aD := nq I hg; have aE := nq' I hg; replace I := bb I hb rfl; have aK := nq J hg; have aM := nq' J hg; replace J := bb J hb rfl; clear hb hbox hg; have cD := aC.out; have cE := aA.out; have cF := aE.out; have cG := aD.out; have cH := aM.out; have cI := aK.out; obtain ⟨b1, b2⟩ := bc2 (w := Z) O.out; have b3 := blk_frozen O.out; have cJ := an.out; have cK := ao.out; obtain ⟨b4, b5⟩ := bc2 (w := Z) I.out; have b6 := blk_frozen I.out)))
     (try simp only [Act.put, List.setIfInBounds_toArray, List.set_cons_zero, List.set_cons_succ])
     go_cut [] (fun wc => ∃ (kq : Nat) (ap : Int) (aq : Int), Aside0 (spec_l2Near.j1 kq y ar z X Y T ab ap aq = some r) ∧ Aside0 (kq ≤ k1) ∧ Aside0 (Kd.R k55 55 wc w.heap.size (fun k_ => k_ ≠ aa ∧ k_ ≠ G) bj T) ∧ Aside0 (Kd.R k57 57 wc w.heap.size (fun _ => True) bk ab) ∧ Aside0 (wc.heap[bI]? = some (.cells #[(.slice a6 ar.length a7), (.slice (some az) z.length a8)] 38 (0, 0))) ∧ Aside0 (wc.heap[aa]? = some (.cells #[.int .i64 X, .int .i64 Y] 55 (0, 0))) ∧ Aside0 (wc.heap[bJ]? = some (.cells #[bj, bk] 38 (0, 0))) ∧ Aside0 (wc.heap[G]? = some (.cells #[.int .i64 ap, .int .i64 aq] 55 (0, 0))) ∧ Aside0 (Below w.heap.size w wc))
     case first =>
      have H := bV.out
      clear bV
      by_cases aw : (((rd_T57 z y).f1.f0) == X && (((rd_T57 z y).f1.f1) == Y)) = true
      ·rw [if_pos aw] at H
       have bl : (((rd_T57 z y).f1.f0) == X && (((rd_T57 z y).f1.f1) == Y)) = true := aw
       (try (have cL : decide (((rd_T57 z y).f1.f0) = X && (((rd_T57 z y).f1.f1) == Y)) = true := by simpa using aw))
       (try (have cM : (((rd_T57 z y).f1.f0) == X && (((rd_T57 z y).f1.f1) == Y)) = true := by simpa using aw))
       clear aw
       (first | rw [bl] | (simp only [i64_w, i32_w]; rw [bl]) | skip)
       have H' := am H
       clear H
       have d2 := a9.out
       have d3 := ba.out
       have d4 := au.out
       have d5 := av.out
       have d6 := aA.out
       have d7 := aC.out
       obtain ⟨dq, dr⟩ := bc2 (w := Z) D.out
       have dt := blk_frozen D.out
       have bP : 0 ≤ (y : Int) := oda
       have bQ : y < (z.length : Int) := oda
       obtain ⟨du, dv, aG, aN, aQ, aT, aU⟩ := at_T57 bH.out y bP bQ
       obtain rfl : az = du := (by injection dv)
       have hn265_0 : az.block ≠ G := Nat.ne_of_lt (Nat.lt_of_lt_of_le (by have := World.block_lt_of_cell? _ _ aG; first | rwa [add_block] at this | exact this) aJ.out)
       have hn265_1 : az.block ≠ G := Nat.ne_of_lt (Nat.lt_of_lt_of_le (by have := World.block_lt_of_cell? _ _ aG; first | rwa [add_block] at this | exact this) aJ.out)
       replace aG := cb HB aG
       replace aN := cb HB aN
       replace aQ := cb HB aQ
       replace aT := cb HB aT
       replace aU := cb HB aU
       replace aG := (cell_far (p := ⟨G, 0, none⟩) (by first | (rw [add_block]; exact hn265_0) | (show (Addr.add _ _).block ≠ _; rw [add_block]; exact hn265_0) | exact hn265_0) (.int .i64 ((rd_T57 z y).f1.f0))).trans aG
       replace aN := (cell_far (p := ⟨G, 0, none⟩) (by first | (rw [add_block]; exact hn265_0) | (show (Addr.add _ _).block ≠ _; rw [add_block]; exact hn265_0) | exact hn265_0) (.int .i64 ((rd_T57 z y).f1.f0))).trans aN
       replace aQ := (cell_far (p := ⟨G, 0, none⟩) (by first | (rw [add_block]; exact hn265_0) | (show (Addr.add _ _).block ≠ _; rw [add_block]; exact hn265_0) | exact hn265_0) (.int .i64 ((rd_T57 z y).f1.f0))).trans aQ
       replace aT := (cell_far (p := ⟨G, 0, none⟩) (by first | (rw [add_block]; exact hn265_0) | (show (Addr.add _ _).block ≠ _; rw [add_block]; exact hn265_0) | exact hn265_0) (.int .i64 ((rd_T57 z y).f1.f0))).trans aT
       replace aU := (cell_far (p := ⟨G, 0, none⟩) (by first | (rw [add_block]; exact hn265_0) | (show (Addr.add _ _).block ≠ _; rw [add_block]; exact hn265_0) | exact hn265_0) (.int .i64 ((rd_T57 z y).f1.f0))).trans aU
       replace aG := (cell_far (p := ⟨G, 1, none⟩) (by first | (rw [add_block]; exact hn265_1) | (show (Addr.add _ _).block ≠ _; rw [add_block]; exact hn265_1) | exact hn265_1) (.int .i64 ((rd_T57 z y).f1.f1))).trans aG
       replace aN := (cell_far (p := ⟨G, 1, none⟩) (by first | (rw [add_block]; exact hn265_1) | (show (Addr.add _ _).block ≠ _; rw [add_block]; exact hn265_1) | exact hn265_1) (.int .i64 ((rd_T57 z y).f1.f1))).trans aN
       replace aQ := (cell_far (p := ⟨G, 1, none⟩) (by first | (rw [add_block]; exact hn265_1) | (show (Addr.add _ _).block ≠ _; rw [add_block]; exact hn265_1) | exact hn265_1) (.int .i64 ((rd_T57 z y).f1.f1))).trans aQ
       replace aT := (cell_far (p := ⟨G, 1, none⟩) (by first | (rw [add_block]; exact hn265_1) | (show (Addr.add _ _).block ≠ _; rw [add_block]; exact hn265_1) | exact hn265_1) (.int .i64 ((rd_T57 z y).f1.f1))).trans aT
       replace aU := (cell_far (p := ⟨G, 1, none⟩) (by first | (rw [add_block]; exact hn265_1) | (show (Addr.add _ _).block ≠ _; rw [add_block]; exact hn265_1) | exact hn265_1) (.int .i64 ((rd_T57 z y).f1.f1))).trans aU
       (try have hy265_0 := fun (n_ : Nat) => (show ((((Z.drewN n_).setCell ⟨G, 0, none⟩ (.int .i64 ((rd_T57 z y).f1.f0))).setCell ⟨G, 1, none⟩ (.int .i64 ((rd_T57 z y).f1.f1)))).cell? _ = some _ from aG))
       (try have hy265_1 := fun (n_ : Nat) => (show ((((Z.drewN n_).setCell ⟨G, 0, none⟩ (.int .i64 ((rd_T57 z y).f1.f0))).setCell ⟨G, 1, none⟩ (.int .i64 ((rd_T57 z y).f1.f1)))).cell? _ = some _ from aN))
       (try have hy265_2 := fun (n_ : Nat) => (show ((((Z.drewN n_).setCell ⟨G, 0, none⟩ (.int .i64 ((rd_T57 z y).f1.f0))).setCell ⟨G, 1, none⟩ (.int .i64 ((rd_T57 z y).f1.f1)))).cell? _ = some _ from aQ))
       (try have hy265_3 := fun (n_ : Nat) => (show ((((Z.drewN n_).setCell ⟨G, 0, none⟩ (.int .i64 ((rd_T57 z y).f1.f0))).setCell ⟨G, 1, none⟩ (.int .i64 ((rd_T57 z y).f1.f1)))).cell? _ = some _ from aT))
       (try have hy265_4 := fun (n_ : Nat) => (show ((((Z.drewN n_).setCell ⟨G, 0, none⟩ (.int .i64 ((rd_T57 z y).f1.f0))).setCell ⟨G, 1, none⟩ (.int .i64 ((rd_T57 z y).f1.f1)))).cell? _ = some _ from aU))
       clear hn265_0
       clear hn265_1
       replace bP := eq_true bP
       replace bQ := eq_true bQ
       have d8 := aE.out
       have d9 := aD.out
       have ea := aM.out
       have eb := aK.out
       obtain ⟨dw, dx⟩ := bc2 (w := Z) O.out
       have dy := blk_frozen O.out
       go_wp2
       repeat (go_quiet (fail); try go_wp2)
       go_meet
       case rel => exact ⟨_, ((rd_T57 z y).f2.f0), ((rd_T57 z y).f2.f1), H', ⟨by have := aI.out; first | omega | exact Nat.le_refl _⟩, ⟨by (with_reducible repeat (first | apply Kd.R_alloc | apply Kd.R_drewN | apply Kd.R_drew)); exact Kd.R_mono (Kd.R_far (p := ⟨G, 1, none⟩) (Kd.R_far (p := ⟨G, 0, none⟩) (Kd.R_far (p := ⟨G, 1, none⟩) (Kd.R_far (p := ⟨G, 0, none⟩) (Kd.R_mono L.out (fun k_ hk => (⟨hk, hk.2⟩ : _ ∧ k_ ≠ G))) (fun _ hk => hk.2) (.int .i64 ((rd_T57 z y).f1.f0))) (fun _ hk => hk.2) (.int .i64 ((rd_T57 z y).f1.f1))) (fun _ hk => hk.2) (.int .i64 ((rd_T57 z y).f2.f0))) (fun _ hk => hk.2) (.int .i64 ((rd_T57 z y).f2.f1))) (fun _ hk => ⟨hk.1.1, hk.1.2⟩)⟩, ⟨Kd.R_mono (rt M.out O.out (by decide)) (fun _ hk => trivial)⟩, ⟨bf D.out⟩, ⟨bf I.out⟩, ⟨bf J.out⟩, ⟨by (with_reducible repeat (first | refine blk_drewN ?_ _ | refine blk_drew ?_ | refine blk_alloc ?_ _)); refine blk_put (cs := #[.int .i64 ((rd_T57 z y).f2.f0), .int .i64 ((rd_T57 z y).f1.f1)]) ?_ 1 _ rfl; (with_reducible repeat (first | refine blk_drewN ?_ _ | refine blk_drew ?_ | refine blk_alloc ?_ _)); refine blk_put (cs := #[.int .i64 ((rd_T57 z y).f1.f0), .int .i64 ((rd_T57 z y).f1.f1)]) ?_ 0 _ rfl; (with_reducible repeat (first | refine blk_drewN ?_ _ | refine blk_drew ?_ | refine blk_alloc ?_ _)); refine blk_put (cs := #[.int .i64 ((rd_T57 z y).f1.f0), .int .i64 0]) ?_ 1 _ rfl; (with_reducible repeat (first | refine blk_drewN ?_ _ | refine blk_drew ?_ | refine blk_alloc ?_ _)); refine blk_put (cs := #[.int .i64 0, .int .i64 0]) ?_ 0 _ rfl; exact bf O.out⟩, ⟨bs HB.out⟩⟩
      ·rw [if_neg aw] at H
       have bl : (((rd_T57 z y).f1.f0) == X && (((rd_T57 z y).f1.f1) == Y)) = false := by simpa using aw
       (try (have cL : decide (((rd_T57 z y).f1.f0) = X && (((rd_T57 z y).f1.f1) == Y)) = false := by simpa using aw))
       (try (have cM : (((rd_T57 z y).f1.f0) == X && (((rd_T57 z y).f1.f1) == Y)) = false := by simpa using aw))
       (try (have ec : ¬ (((rd_T57 z y).f1.f0) = X && (((rd_T57 z y).f1.f1) == Y)) := by simpa using aw))
       clear aw
       (first | rw [bl] | (simp only [i64_w, i32_w]; rw [bl]) | skip)
       by_cases bc : (!(((rd_T57 z y).f2.f0) == X) || (!(((rd_T57 z y).f2.f1) == Y))) = true
       ·rw [if_pos bc] at H
        have cN : (!(((rd_T57 z y).f2.f0) == X) || (!(((rd_T57 z y).f2.f1) == Y))) = true := bc
        clear bc
        have H' := am H
        clear H
        have ed := a9.out
        have ee := ba.out
        have ef := au.out
        have eg := av.out
        have eh := aA.out
        have ei := aC.out
        obtain ⟨dz, dA⟩ := bc2 (w := Z) D.out
        have dB := blk_frozen D.out
        have aV : 0 ≤ (y : Int) := oda
        have aW : y < (z.length : Int) := oda
        obtain ⟨b7, b8, ac, ai, aj, ak, al⟩ := at_T57 bH.out y aV aW
        obtain rfl : az = b7 := (by injection b8)
        have hn266_0 : az.block ≠ G := Nat.ne_of_lt (Nat.lt_of_lt_of_le (by have := World.block_lt_of_cell? _ _ ac; first | rwa [add_block] at this | exact this) aJ.out)
        have hn266_1 : az.block ≠ G := Nat.ne_of_lt (Nat.lt_of_lt_of_le (by have := World.block_lt_of_cell? _ _ ac; first | rwa [add_block] at this | exact this) aJ.out)
        replace ac := cb HB ac
        replace ai := cb HB ai
        replace aj := cb HB aj
        replace ak := cb HB ak
        replace al := cb HB al
        replace ac := (cell_far (p := ⟨G, 0, none⟩) (by first | (rw [add_block]; exact hn266_0) | (show (Addr.add _ _).block ≠ _; rw [add_block]; exact hn266_0) | exact hn266_0) (.int .i64 ((rd_T57 z y).f1.f0))).trans ac
        replace ai := (cell_far (p := ⟨G, 0, none⟩) (by first | (rw [add_block]; exact hn266_0) | (show (Addr.add _ _).block ≠ _; rw [add_block]; exact hn266_0) | exact hn266_0) (.int .i64 ((rd_T57 z y).f1.f0))).trans ai
        replace aj := (cell_far (p := ⟨G, 0, none⟩) (by first | (rw [add_block]; exact hn266_0) | (show (Addr.add _ _).block ≠ _; rw [add_block]; exact hn266_0) | exact hn266_0) (.int .i64 ((rd_T57 z y).f1.f0))).trans aj
        replace ak := (cell_far (p := ⟨G, 0, none⟩) (by first | (rw [add_block]; exact hn266_0) | (show (Addr.add _ _).block ≠ _; rw [add_block]; exact hn266_0) | exact hn266_0) (.int .i64 ((rd_T57 z y).f1.f0))).trans ak
        replace al := (cell_far (p := ⟨G, 0, none⟩) (by first | (rw [add_block]; exact hn266_0) | (show (Addr.add _ _).block ≠ _; rw [add_block]; exact hn266_0) | exact hn266_0) (.int .i64 ((rd_T57 z y).f1.f0))).trans al
        replace ac := (cell_far (p := ⟨G, 1, none⟩) (by first | (rw [add_block]; exact hn266_1) | (show (Addr.add _ _).block ≠ _; rw [add_block]; exact hn266_1) | exact hn266_1) (.int .i64 ((rd_T57 z y).f1.f1))).trans ac
        replace ai := (cell_far (p := ⟨G, 1, none⟩) (by first | (rw [add_block]; exact hn266_1) | (show (Addr.add _ _).block ≠ _; rw [add_block]; exact hn266_1) | exact hn266_1) (.int .i64 ((rd_T57 z y).f1.f1))).trans ai
        replace aj := (cell_far (p := ⟨G, 1, none⟩) (by first | (rw [add_block]; exact hn266_1) | (show (Addr.add _ _).block ≠ _; rw [add_block]; exact hn266_1) | exact hn266_1) (.int .i64 ((rd_T57 z y).f1.f1))).trans aj
        replace ak := (cell_far (p := ⟨G, 1, none⟩) (by first | (rw [add_block]; exact hn266_1) | (show (Addr.add _ _).block ≠ _; rw [add_block]; exact hn266_1) | exact hn266_1) (.int .i64 ((rd_T57 z y).f1.f1))).trans ak
        replace al := (cell_far (p := ⟨G, 1, none⟩) (by first | (rw [add_block]; exact hn266_1) | (show (Addr.add _ _).block ≠ _; rw [add_block]; exact hn266_1) | exact hn266_1) (.int .i64 ((rd_T57 z y).f1.f1))).trans al
        (try have hy266_0 := fun (n_ : Nat) => (show ((((Z.drewN n_).setCell ⟨G, 0, none⟩ (.int .i64 ((rd_T57 z y).f1.f0))).setCell ⟨G, 1, none⟩ (.int .i64 ((rd_T57 z y).f1.f1)))).cell? _ = some _ from ac))
        (try have hy266_1 := fun (n_ : Nat) => (show ((((Z.drewN n_).setCell ⟨G, 0, none⟩ (.int .i64 ((rd_T57 z y).f1.f0))).setCell ⟨G, 1, none⟩ (.int .i64 ((rd_T57 z y).f1.f1)))).cell? _ = some _ from ai))
        (try have hy266_2 := fun (n_ : Nat) => (show ((((Z.drewN n_).setCell ⟨G, 0, none⟩ (.int .i64 ((rd_T57 z y).f1.f0))).setCell ⟨G, 1, none⟩ (.int .i64 ((rd_T57 z y).f1.f1)))).cell? _ = some _ from aj))
        (try have hy266_3 := fun (n_ : Nat) => (show ((((Z.drewN n_).setCell ⟨G, 0, none⟩ (.int .i64 ((rd_T57 z y).f1.f0))).setCell ⟨G, 1, none⟩ (.int .i64 ((rd_T57 z y).f1.f1)))).cell? _ = some _ from ak))
        (try have hy266_4 := fun (n_ : Nat) => (show ((((Z.drewN n_).setCell ⟨G, 0, none⟩ (.int .i64 ((rd_T57 z y).f1.f0))).setCell ⟨G, 1, none⟩ (.int .i64 ((rd_T57 z y).f1.f1)))).cell? _ = some _ from al))
        clear hn266_0
        clear hn266_1
        replace aV := eq_true aV
        replace aW := eq_true aW
        have ej := an.out
        have ek := ao.out
        have el := aD.out
        have em := aE.out
        obtain ⟨dC, dD⟩ := bc2 (w := Z) I.out
        have dE := blk_frozen I.out
        go_wp2
        repeat (go_quiet (fail); try go_wp2)
        go_roundg k1
        case measure => have := aI.out; omega
        case rel => exact ⟨(wrap64 (y + 1)), (T), (ab), (bj), (bk), eqs, H', ⟨by have := aI.out; omega⟩, ⟨by (with_reducible repeat (first | apply Kd.R_alloc | apply Kd.R_drewN | apply Kd.R_drew)); exact Kd.R_mono (Kd.R_far (p := ⟨G, 1, none⟩) (Kd.R_far (p := ⟨G, 0, none⟩) (Kd.R_mono L.out (fun k_ hk => (⟨hk, hk.2⟩ : _ ∧ k_ ≠ G))) (fun _ hk => hk.2) (.int .i64 ((rd_T57 z y).f1.f0))) (fun _ hk => hk.2) (.int .i64 ((rd_T57 z y).f1.f1))) (fun _ hk => hk.1.1)⟩, ⟨Kd.R_mono (rt M.out O.out (by decide)) (fun _ hk => trivial)⟩, ⟨bf D.out⟩, ⟨bf I.out⟩, ⟨bf J.out⟩, ⟨bs HB.out⟩⟩
       ·rw [if_neg bc] at H
        have cN : (!(((rd_T57 z y).f2.f0) == X) || (!(((rd_T57 z y).f2.f1) == Y))) = false := by simpa using bc
        clear bc
        have H' := am H
        clear H
        have en := a9.out
        have eo := ba.out
        have ep := au.out
        have eq := av.out
        have er := aA.out
        have es := aC.out
        obtain ⟨dF, dG⟩ := bc2 (w := Z) D.out
        have dH := blk_frozen D.out
        have aV : 0 ≤ (y : Int) := oda
        have aW : y < (z.length : Int) := oda
        obtain ⟨b7, b8, ac, ai, aj, ak, al⟩ := at_T57 bH.out y aV aW
        obtain rfl : az = b7 := (by injection b8)
        have hn266_0 : az.block ≠ G := Nat.ne_of_lt (Nat.lt_of_lt_of_le (by have := World.block_lt_of_cell? _ _ ac; first | rwa [add_block] at this | exact this) aJ.out)
        have hn266_1 : az.block ≠ G := Nat.ne_of_lt (Nat.lt_of_lt_of_le (by have := World.block_lt_of_cell? _ _ ac; first | rwa [add_block] at this | exact this) aJ.out)
        replace ac := cb HB ac
        replace ai := cb HB ai
        replace aj := cb HB aj
        replace ak := cb HB ak
        replace al := cb HB al
        replace ac := (cell_far (p := ⟨G, 0, none⟩) (by first | (rw [add_block]; exact hn266_0) | (show (Addr.add _ _).block ≠ _; rw [add_block]; exact hn266_0) | exact hn266_0) (.int .i64 ((rd_T57 z y).f1.f0))).trans ac
        replace ai := (cell_far (p := ⟨G, 0, none⟩) (by first | (rw [add_block]; exact hn266_0) | (show (Addr.add _ _).block ≠ _; rw [add_block]; exact hn266_0) | exact hn266_0) (.int .i64 ((rd_T57 z y).f1.f0))).trans ai
        replace aj := (cell_far (p := ⟨G, 0, none⟩) (by first | (rw [add_block]; exact hn266_0) | (show (Addr.add _ _).block ≠ _; rw [add_block]; exact hn266_0) | exact hn266_0) (.int .i64 ((rd_T57 z y).f1.f0))).trans aj
        replace ak := (cell_far (p := ⟨G, 0, none⟩) (by first | (rw [add_block]; exact hn266_0) | (show (Addr.add _ _).block ≠ _; rw [add_block]; exact hn266_0) | exact hn266_0) (.int .i64 ((rd_T57 z y).f1.f0))).trans ak
        replace al := (cell_far (p := ⟨G, 0, none⟩) (by first | (rw [add_block]; exact hn266_0) | (show (Addr.add _ _).block ≠ _; rw [add_block]; exact hn266_0) | exact hn266_0) (.int .i64 ((rd_T57 z y).f1.f0))).trans al
        replace ac := (cell_far (p := ⟨G, 1, none⟩) (by first | (rw [add_block]; exact hn266_1) | (show (Addr.add _ _).block ≠ _; rw [add_block]; exact hn266_1) | exact hn266_1) (.int .i64 ((rd_T57 z y).f1.f1))).trans ac
        replace ai := (cell_far (p := ⟨G, 1, none⟩) (by first | (rw [add_block]; exact hn266_1) | (show (Addr.add _ _).block ≠ _; rw [add_block]; exact hn266_1) | exact hn266_1) (.int .i64 ((rd_T57 z y).f1.f1))).trans ai
        replace aj := (cell_far (p := ⟨G, 1, none⟩) (by first | (rw [add_block]; exact hn266_1) | (show (Addr.add _ _).block ≠ _; rw [add_block]; exact hn266_1) | exact hn266_1) (.int .i64 ((rd_T57 z y).f1.f1))).trans aj
        replace ak := (cell_far (p := ⟨G, 1, none⟩) (by first | (rw [add_block]; exact hn266_1) | (show (Addr.add _ _).block ≠ _; rw [add_block]; exact hn266_1) | exact hn266_1) (.int .i64 ((rd_T57 z y).f1.f1))).trans ak
        replace al := (cell_far (p := ⟨G, 1, none⟩) (by first | (rw [add_block]; exact hn266_1) | (show (Addr.add _ _).block ≠ _; rw [add_block]; exact hn266_1) | exact hn266_1) (.int .i64 ((rd_T57 z y).f1.f1))).trans al
        (try have hy266_0 := fun (n_ : Nat) => (show ((((Z.drewN n_).setCell ⟨G, 0, none⟩ (.int .i64 ((rd_T57 z y).f1.f0))).setCell ⟨G, 1, none⟩ (.int .i64 ((rd_T57 z y).f1.f1)))).cell? _ = some _ from ac))
        (try have hy266_1 := fun (n_ : Nat) => (show ((((Z.drewN n_).setCell ⟨G, 0, none⟩ (.int .i64 ((rd_T57 z y).f1.f0))).setCell ⟨G, 1, none⟩ (.int .i64 ((rd_T57 z y).f1.f1)))).cell? _ = some _ from ai))
        (try have hy266_2 := fun (n_ : Nat) => (show ((((Z.drewN n_).setCell ⟨G, 0, none⟩ (.int .i64 ((rd_T57 z y).f1.f0))).setCell ⟨G, 1, none⟩ (.int .i64 ((rd_T57 z y).f1.f1)))).cell? _ = some _ from aj))
        (try have hy266_3 := fun (n_ : Nat) => (show ((((Z.drewN n_).setCell ⟨G, 0, none⟩ (.int .i64 ((rd_T57 z y).f1.f0))).setCell ⟨G, 1, none⟩ (.int .i64 ((rd_T57 z y).f1.f1)))).cell? _ = some _ from ak))
        (try have hy266_4 := fun (n_ : Nat) => (show ((((Z.drewN n_).setCell ⟨G, 0, none⟩ (.int .i64 ((rd_T57 z y).f1.f0))).setCell ⟨G, 1, none⟩ (.int .i64 ((rd_T57 z y).f1.f1)))).cell? _ = some _ from al))
        clear hn266_0
        clear hn266_1
        replace aV := eq_true aV
        replace aW := eq_true aW
        have et := an.out
        have eu := ao.out
        have ev := aD.out
        have ew := aE.out
        obtain ⟨dI, dJ⟩ := bc2 (w := Z) I.out
        have dK := blk_frozen I.out
        go_wp2
        repeat (go_quiet (fail); try go_wp2)
        go_meet
        case rel => exact ⟨_, ((rd_T57 z y).f1.f0), ((rd_T57 z y).f1.f1), H', ⟨by have := aI.out; first | omega | exact Nat.le_refl _⟩, ⟨by (with_reducible repeat (first | apply Kd.R_alloc | apply Kd.R_drewN | apply Kd.R_drew)); exact Kd.R_mono (Kd.R_far (p := ⟨G, 1, none⟩) (Kd.R_far (p := ⟨G, 0, none⟩) (Kd.R_mono L.out (fun k_ hk => (⟨hk, hk.2⟩ : _ ∧ k_ ≠ G))) (fun _ hk => hk.2) (.int .i64 ((rd_T57 z y).f1.f0))) (fun _ hk => hk.2) (.int .i64 ((rd_T57 z y).f1.f1))) (fun _ hk => ⟨hk.1.1, hk.1.2⟩)⟩, ⟨Kd.R_mono (rt M.out O.out (by decide)) (fun _ hk => trivial)⟩, ⟨bf D.out⟩, ⟨bf I.out⟩, ⟨bf J.out⟩, ⟨by (with_reducible repeat (first | refine blk_drewN ?_ _ | refine blk_drew ?_ | refine blk_alloc ?_ _)); refine blk_put (cs := #[.int .i64 ((rd_T57 z y).f1.f0), .int .i64 0]) ?_ 1 _ rfl; (with_reducible repeat (first | refine blk_drewN ?_ _ | refine blk_drew ?_ | refine blk_alloc ?_ _)); refine blk_put (cs := #[.int .i64 0, .int .i64 0]) ?_ 0 _ rfl; exact bf O.out⟩, ⟨bs HB.out⟩⟩
     case rest =>
      clear bV
      try clear c1
      try clear c2
      try clear p2
      try clear q2
      try clear ex
      try clear c3
      try clear c4
      try clear c6
      try clear p6
      try clear c7
      try clear c9
      try clear cC
      try clear bv
      try clear dj
      try clear ey
      try clear ez
      try clear eA
      try clear eB
      try clear eC
      try clear eD
      try clear aw
      try clear bl
      try clear cL
      try clear cM
      try clear eE
      try clear eF
      try clear eG
      try clear eH
      try clear eI
      try clear eJ
      try clear eK
      try clear eL
      try clear bc
      try clear cN
      try clear eM
      try clear eN
      try clear eO
      try clear eP
      try clear eQ
      try clear eR
      try clear eS
      try clear eT
      try clear eU
      try clear eV
      try clear dk dl
      try clear b1 b2
      try clear b4 b5
      try clear dq dr
      try clear dw dx
      try clear dz dA
      try clear dC dD
      try clear dF dG
      try clear dI dJ
      try clear bK bL
      try clear dm
      try clear b3
      try clear b6
      try clear dt
      try clear dy
      try clear dB
      try clear dE
      try clear dH
      try clear dK
      try clear bM
      try clear bW
      try clear bX
      try clear bY
      try clear bZ
      try clear b0
      try clear aG
      try clear aN
      try clear aQ
      try clear aT
      try clear aU
      try clear ac
      try clear ai
      try clear aj
      try clear ak
      try clear al
      try clear p2
      try clear bN
      try clear bP
      try clear aV
      try clear bO
      try clear bQ
      try clear aW
      obtain ⟨kq, ap, aq, HA, bR, L, M, D, I, J, O, HB⟩ := hcut
      cases kq with
      | zero => exact absurd HA.out (by simp [spec_l2Near.j1])
      | succ ax =>
       have H := HA.out
       clear HA
       simp only [spec_l2Near.j1] at H
       replace H := Option.bind_eq_some_iff.mp H
       obtain ⟨aH, cO, H⟩ := H
       try dsimp -simprocs only at H
       have bm := am cO
       clear cO
       by_cases bn : aH < 0
       ·rw [if_pos bn] at H
        have dL : decide (aH < 0) = true := decide_eq_true bn
        clear bn
        replace H := Option.bind_eq_some_iff.mp H
        obtain ⟨⟨bo, bw⟩, cP, H⟩ := H
        try dsimp -simprocs only at H
        have b9 := am cP
        clear cP
        have H' := am H
        clear H
        have eW := av.out
        have eX := au.out
        have eY := ao.out
        have eZ := an.out
        have e0 := aK.out
        have e1 := aM.out
        obtain ⟨e2, e3⟩ := bc2 (w := wc) J.out
        have e4 := blk_frozen J.out
        have e5 := aC.out
        have e6 := aA.out
        have e7 := aE.out
        have e8 := aD.out
        obtain ⟨e9, fa⟩ := bc2 (w := wc) O.out
        have fb := blk_frozen O.out
        obtain ⟨be, bg, dM⟩ := Kd.R_slice L.out
        subst dM
        obtain ⟨aX, aY, dN⟩ := Kd.R_slice M.out
        subst dN
        go_wp2_with (first | (go_at_call 43; (with_reducible refine (spec_l2At.calls ax _ _ T _ _ ab ap aq aH _ ?af ?ag ?ah ?ay bm.out).mono ?_); (case af => exact cr L); (case ag => exact cc L); (case ah => exact cr M); (case ay => exact cc M); rintro e aZ ⟨rfl, hb⟩; replace L := rb L hb; replace M := rb M hb; replace D := bb D hb rfl; replace I := bb I hb rfl; replace J := bb J hb rfl; replace O := bb O hb rfl; replace HB := hs HB hb; (try clear hb); obtain ⟨cQ, cR⟩ := bc2 (w := aZ) J.out; have cS := blk_frozen J.out; obtain ⟨cT, cU⟩ := bc2 (w := aZ) O.out; have cV := blk_frozen O.out) | (go_at_call 36; (with_reducible refine (spec_l2PutNode.calls ax (fun k_ => some k_ = (.slice be T.length bg : Value).ownBlock) (.slice be T.length bg) T (fun k_ => some k_ = (.slice aX ab.length aY : Value).ownBlock) (.slice aX ab.length aY) ab ap aq bo bw w _ ?af ?ag ?ah b9.out).mono ?_); (case af => exact bs HB.out); (case ag => exact Kd.R_tight rfl L.out); (case ah => exact Kd.R_tight rfl M.out); rintro e bz ⟨cW, cX, rfl, a4, a5, hb, hkp⟩; replace D := am (blk_kept (bf D.out) hkp (fun hs_ => Or.elim hs_ (fun e_ => (fun e_ => (Kd.R_ne L.out D.out (by decide)) e_) e_) (fun e_ => (fun e_ => (Kd.R_ne M.out D.out (by decide)) e_) e_))); replace J := am (blk_kept (bf J.out) hkp (fun hs_ => Or.elim hs_ (fun e_ => (fun e_ => (Kd.R_ne L.out J.out (by decide)) e_) e_) (fun e_ => (fun e_ => (Kd.R_ne M.out J.out (by decide)) e_) e_))); have br := am (Kd.R_mono (ok' := fun k_ => k_ ≠ aa ∧ k_ ≠ G) a4 (fun k_ hk_ => ⟨Or.elim hk_ (fun hs_ => Or.elim hs_ (fun hs_ => fun e_ => (Kd.R_away L.out (fun _ hk => hk.1)) (by rw [← e_]; exact hs_)) (fun hs_ => fun e_ => (Kd.R_ne M.out I.out (by decide)) (by rw [← e_]; exact hs_))) (fun hn_ => (Kd.freshB (g := aa) (o := .cells #[.int .i64 X, .int .i64 Y] 55 (0, 0)) (bf I.out) k_ hn_)), Or.elim hk_ (fun hs_ => Or.elim hs_ (fun hs_ => fun e_ => (Kd.R_away L.out (fun _ hk => hk.2)) (by rw [← e_]; exact hs_)) (fun hs_ => fun e_ => (Kd.R_ne M.out O.out (by decide)) (by rw [← e_]; exact hs_))) (fun hn_ => (Kd.freshB (g := G) (o := .cells #[.int .i64 ap, .int .i64 aq] 55 (0, 0)) (bf O.out) k_ hn_))⟩)); replace I := am (blk_kept (bf I.out) hkp (fun hs_ => Or.elim hs_ (fun e_ => (fun e_ => (Kd.R_away L.out (fun _ hk => hk.1)) e_) e_) (fun e_ => (fun e_ => (Kd.R_ne M.out I.out (by decide)) e_) e_))); replace O := am (blk_kept (bf O.out) hkp (fun hs_ => Or.elim hs_ (fun e_ => (fun e_ => (Kd.R_away L.out (fun _ hk => hk.2)) e_) e_) (fun e_ => (fun e_ => (Kd.R_ne M.out O.out (by decide)) e_) e_))); have bt := am (Kd.R_mono (ok' := fun k_ => True) a5 (fun k_ hk_ => trivial)); replace HB := am hb; clear L M; (try clear a4 a5 hb hkp); obtain ⟨bS, bT, bA⟩ := Kd.R_slice br.out; subst bA; obtain ⟨cY, cZ⟩ := bc2 (w := bz) J.out; have da := blk_frozen J.out; obtain ⟨ce, cf, bB⟩ := Kd.R_slice bt.out; subst bB))
        repeat (go_quiet (first | (go_at_call 43; (with_reducible refine (spec_l2At.calls ax _ _ T _ _ ab ap aq aH _ ?af ?ag ?ah ?ay bm.out).mono ?_); (case af => exact cr L); (case ag => exact cc L); (case ah => exact cr M); (case ay => exact cc M); rintro e aZ ⟨rfl, hb⟩; replace L := rb L hb; replace M := rb M hb; replace D := bb D hb rfl; replace I := bb I hb rfl; replace J := bb J hb rfl; replace O := bb O hb rfl; replace HB := hs HB hb; (try clear hb); obtain ⟨cQ, cR⟩ := bc2 (w := aZ) J.out; have cS := blk_frozen J.out; obtain ⟨cT, cU⟩ := bc2 (w := aZ) O.out; have cV := blk_frozen O.out) | (go_at_call 36; (with_reducible refine (spec_l2PutNode.calls ax (fun k_ => some k_ = (.slice be T.length bg : Value).ownBlock) (.slice be T.length bg) T (fun k_ => some k_ = (.slice aX ab.length aY : Value).ownBlock) (.slice aX ab.length aY) ab ap aq bo bw w _ ?af ?ag ?ah b9.out).mono ?_); (case af => exact bs HB.out); (case ag => exact Kd.R_tight rfl L.out); (case ah => exact Kd.R_tight rfl M.out); rintro e bz ⟨cW, cX, rfl, a4, a5, hb, hkp⟩; replace D := am (blk_kept (bf D.out) hkp (fun hs_ => Or.elim hs_ (fun e_ => (fun e_ => (Kd.R_ne L.out D.out (by decide)) e_) e_) (fun e_ => (fun e_ => (Kd.R_ne M.out D.out (by decide)) e_) e_))); replace J := am (blk_kept (bf J.out) hkp (fun hs_ => Or.elim hs_ (fun e_ => (fun e_ => (Kd.R_ne L.out J.out (by decide)) e_) e_) (fun e_ => (fun e_ => (Kd.R_ne M.out J.out (by decide)) e_) e_))); have br := am (Kd.R_mono (ok' := fun k_ => k_ ≠ aa ∧ k_ ≠ G) a4 (fun k_ hk_ => ⟨Or.elim hk_ (fun hs_ => Or.elim hs_ (fun hs_ => fun e_ => (Kd.R_away L.out (fun _ hk => hk.1)) (by rw [← e_]; exact hs_)) (fun hs_ => fun e_ => (Kd.R_ne M.out I.out (by decide)) (by rw [← e_]; exact hs_))) (fun hn_ => (Kd.freshB (g := aa) (o := .cells #[.int .i64 X, .int .i64 Y] 55 (0, 0)) (bf I.out) k_ hn_)), Or.elim hk_ (fun hs_ => Or.elim hs_ (fun hs_ => fun e_ => (Kd.R_away L.out (fun _ hk => hk.2)) (by rw [← e_]; exact hs_)) (fun hs_ => fun e_ => (Kd.R_ne M.out O.out (by decide)) (by rw [← e_]; exact hs_))) (fun hn_ => (Kd.freshB (g := G) (o := .cells #[.int .i64 ap, .int .i64 aq] 55 (0, 0)) (bf O.out) k_ hn_))⟩)); replace I := am (blk_kept (bf I.out) hkp (fun hs_ => Or.elim hs_ (fun e_ => (fun e_ => (Kd.R_away L.out (fun _ hk => hk.1)) e_) e_) (fun e_ => (fun e_ => (Kd.R_ne M.out I.out (by decide)) e_) e_))); replace O := am (blk_kept (bf O.out) hkp (fun hs_ => Or.elim hs_ (fun e_ => (fun e_ => (Kd.R_away L.out (fun _ hk => hk.2)) e_) e_) (fun e_ => (fun e_ => (Kd.R_ne M.out O.out (by decide)) e_) e_))); have bt := am (Kd.R_mono (ok' := fun k_ => True) a5 (fun k_ hk_ => trivial)); replace HB := am hb; clear L M; (try clear a4 a5 hb hkp); obtain ⟨bS, bT, bA⟩ := Kd.R_slice br.out; subst bA; obtain ⟨cY, cZ⟩ := bc2 (w := bz) J.out; have da := blk_frozen J.out; obtain ⟨ce, cf, bB⟩ := Kd.R_slice bt.out; subst bB)); try go_wp2_with (first | (go_at_call 43; (with_reducible refine (spec_l2At.calls ax _ _ T _ _ ab ap aq aH _ ?af ?ag ?ah ?ay bm.out).mono ?_); (case af => exact cr L); (case ag => exact cc L); (case ah => exact cr M); (case ay => exact cc M); rintro e aZ ⟨rfl, hb⟩; replace L := rb L hb; replace M := rb M hb; replace D := bb D hb rfl; replace I := bb I hb rfl; replace J := bb J hb rfl; replace O := bb O hb rfl; replace HB := hs HB hb; (try clear hb); obtain ⟨cQ, cR⟩ := bc2 (w := aZ) J.out; have cS := blk_frozen J.out; obtain ⟨cT, cU⟩ := bc2 (w := aZ) O.out; have cV := blk_frozen O.out) | (go_at_call 36; (with_reducible refine (spec_l2PutNode.calls ax (fun k_ => some k_ = (.slice be T.length bg : Value).ownBlock) (.slice be T.length bg) T (fun k_ => some k_ = (.slice aX ab.length aY : Value).ownBlock) (.slice aX ab.length aY) ab ap aq bo bw w _ ?af ?ag ?ah b9.out).mono ?_); (case af => exact bs HB.out); (case ag => exact Kd.R_tight rfl L.out); (case ah => exact Kd.R_tight rfl M.out); rintro e bz ⟨cW, cX, rfl, a4, a5, hb, hkp⟩; replace D := am (blk_kept (bf D.out) hkp (fun hs_ => Or.elim hs_ (fun e_ => (fun e_ => (Kd.R_ne L.out D.out (by decide)) e_) e_) (fun e_ => (fun e_ => (Kd.R_ne M.out D.out (by decide)) e_) e_))); replace J := am (blk_kept (bf J.out) hkp (fun hs_ => Or.elim hs_ (fun e_ => (fun e_ => (Kd.R_ne L.out J.out (by decide)) e_) e_) (fun e_ => (fun e_ => (Kd.R_ne M.out J.out (by decide)) e_) e_))); have br := am (Kd.R_mono (ok' := fun k_ => k_ ≠ aa ∧ k_ ≠ G) a4 (fun k_ hk_ => ⟨Or.elim hk_ (fun hs_ => Or.elim hs_ (fun hs_ => fun e_ => (Kd.R_away L.out (fun _ hk => hk.1)) (by rw [← e_]; exact hs_)) (fun hs_ => fun e_ => (Kd.R_ne M.out I.out (by decide)) (by rw [← e_]; exact hs_))) (fun hn_ => (Kd.freshB (g := aa) (o := .cells #[.int .i64 X, .int .i64 Y] 55 (0, 0)) (bf I.out) k_ hn_)), Or.elim hk_ (fun hs_ => Or.elim hs_ (fun hs_ => fun e_ => (Kd.R_away L.out (fun _ hk => hk.2)) (by rw [← e_]; exact hs_)) (fun hs_ => fun e_ => (Kd.R_ne M.out O.out (by decide)) (by rw [← e_]; exact hs_))) (fun hn_ => (Kd.freshB (g := G) (o := .cells #[.int .i64 ap, .int .i64 aq] 55 (0, 0)) (bf O.out) k_ hn_))⟩)); replace I := am (blk_kept (bf I.out) hkp (fun hs_ => Or.elim hs_ (fun e_ => (fun e_ => (Kd.R_away L.out (fun _ hk => hk.1)) e_) e_) (fun e_ => (fun e_ => (Kd.R_ne M.out I.out (by decide)) e_) e_))); replace O := am (blk_kept (bf O.out) hkp (fun hs_ => Or.elim hs_ (fun e_ => (fun e_ => (Kd.R_away L.out (fun _ hk => hk.2)) e_) e_) (fun e_ => (fun e_ => (Kd.R_ne M.out O.out (by decide)) e_) e_))); have bt := am (Kd.R_mono (ok' := fun k_ => True) a5 (fun k_ hk_ => trivial)); replace HB := am hb; clear L M; (try clear a4 a5 hb hkp); obtain ⟨bS, bT, bA⟩ := Kd.R_slice br.out; subst bA; obtain ⟨cY, cZ⟩ := bc2 (w := bz) J.out; have da := blk_frozen J.out; obtain ⟨ce, cf, bB⟩ := Kd.R_slice bt.out; subst bB)))
        go_roundg ax
        case measure => have := aI.out; have := bR.out; omega
        case rel => exact ⟨(wrap64 (y + 1)), (bo), (bw), (.slice bS bo.length bT), (.slice ce bw.length cf), eqs, H', ⟨by have := aI.out; have := bR.out; omega⟩, ⟨Kd.R_mono (rt br.out J.out (by decide)) (fun _ hk => hk.1)⟩, ⟨Kd.R_mono (rt bt.out J.out (by decide)) (fun _ hk => trivial)⟩, ⟨bf D.out⟩, ⟨bf I.out⟩, ⟨by (with_reducible repeat (first | refine blk_drewN ?_ _ | refine blk_drew ?_ | refine blk_alloc ?_ _)); refine blk_put (cs := #[.slice bS bo.length bT, .slice aX ab.length aY]) ?_ 1 _ rfl; (with_reducible repeat (first | refine blk_drewN ?_ _ | refine blk_drew ?_ | refine blk_alloc ?_ _)); refine blk_put (cs := #[.slice be T.length bg, .slice aX ab.length aY]) ?_ 0 _ rfl; exact bf J.out⟩, ⟨bs HB.out⟩⟩
       ·rw [if_neg bn] at H
        have dL : decide (aH < 0) = false := decide_eq_false bn
        clear bn
        have H' := am H
        clear H
        have fc := av.out
        have fd := au.out
        have fe := ao.out
        have ff := an.out
        have fg := aK.out
        have fh := aM.out
        obtain ⟨fi, fj⟩ := bc2 (w := wc) J.out
        have fk := blk_frozen J.out
        have fl := aC.out
        have fm := aA.out
        have fo := aE.out
        have fp := aD.out
        obtain ⟨fq, fr⟩ := bc2 (w := wc) O.out
        have fs := blk_frozen O.out
        obtain ⟨dO, dP, dQ⟩ := Kd.R_slice L.out
        subst dQ
        obtain ⟨dR, dS, dT⟩ := Kd.R_slice M.out
        subst dT
        go_wp2_with (first | (go_at_call 43; (with_reducible refine (spec_l2At.calls ax _ _ T _ _ ab ap aq aH _ ?af ?ag ?ah ?ay bm.out).mono ?_); (case af => exact cr L); (case ag => exact cc L); (case ah => exact cr M); (case ay => exact cc M); rintro e db ⟨rfl, hb⟩; replace L := rb L hb; replace M := rb M hb; replace D := bb D hb rfl; replace I := bb I hb rfl; replace J := bb J hb rfl; replace O := bb O hb rfl; replace HB := hs HB hb; (try clear hb)))
        repeat (go_quiet (first | (go_at_call 43; (with_reducible refine (spec_l2At.calls ax _ _ T _ _ ab ap aq aH _ ?af ?ag ?ah ?ay bm.out).mono ?_); (case af => exact cr L); (case ag => exact cc L); (case ah => exact cr M); (case ay => exact cc M); rintro e db ⟨rfl, hb⟩; replace L := rb L hb; replace M := rb M hb; replace D := bb D hb rfl; replace I := bb I hb rfl; replace J := bb J hb rfl; replace O := bb O hb rfl; replace HB := hs HB hb; (try clear hb))); try go_wp2_with (first | (go_at_call 43; (with_reducible refine (spec_l2At.calls ax _ _ T _ _ ab ap aq aH _ ?af ?ag ?ah ?ay bm.out).mono ?_); (case af => exact cr L); (case ag => exact cc L); (case ah => exact cr M); (case ay => exact cc M); rintro e db ⟨rfl, hb⟩; replace L := rb L hb; replace M := rb M hb; replace D := bb D hb rfl; replace I := bb I hb rfl; replace J := bb J hb rfl; replace O := bb O hb rfl; replace HB := hs HB hb; (try clear hb))))
        go_roundg ax
        case measure => have := aI.out; have := bR.out; omega
        case rel => exact ⟨(wrap64 (y + 1)), (T), (ab), (.slice dO T.length dP), (.slice dR ab.length dS), eqs, H', ⟨by have := aI.out; have := bR.out; omega⟩, ⟨by (with_reducible repeat (first | apply Kd.R_alloc | apply Kd.R_drewN | apply Kd.R_drew)); exact Kd.R_mono L.out (fun _ hk => hk.1)⟩, ⟨rl M.out⟩, ⟨bf D.out⟩, ⟨bf I.out⟩, ⟨bf J.out⟩, ⟨bs HB.out⟩⟩
    ·rw [if_neg bv] at H
     exact absurd H (by simp)
   ·rw [if_neg c9] at H
    have cC : decide (y < (z.length : Int)) = false := decide_eq_false c9
    clear c9
    obtain ⟨bh, cg⟩ : ∃ y_ : List (S55), y_ = (([] : List (S55))) := ⟨_, rfl⟩
    replace H : (if bh.length + T.length < 8796093022208 then (some (bh ++ T)) else (none)) = some r := by first | (rw [cg]; exact H) | exact H
    have bu := am cg
    clear cg
    by_cases bU : bh.length + T.length < 8796093022208
    ·rw [if_pos bU] at H
     have ch := am bU
     clear bU
     obtain ⟨dU, ci⟩ : ∃ y_ : List (S55), y_ = (bh ++ T) := ⟨_, rfl⟩
     replace H : (some dU) = some r := by first | (rw [ci]; exact H) | exact H
     have cj := am ci
     clear ci
     obtain rfl := Option.some.inj H
     have ft := a9.out
     have fu := ba.out
     have fv := au.out
     have fw := av.out
     obtain ⟨fx, fy⟩ := bc2 (w := wr) D.out
     have fz := blk_frozen D.out
     go_wp2_with (first | ((with_reducible refine gd 46 rfl ?_); refine Kd.R_lit k55 _ 55 ?hg (N := 46) ?hd (xs := ([] : List (S55))) (inner := []) (ok := fun _ => True) (okp := fun _ => True) ?hr ?hp (fun _ hk => hk) trivial (Below.refl _ _) (Nat.le_refl _) (by simp) ?_; (case hd => rfl); (case hg => rfl); (case hr => first | (go_simp; done) | (go_simp; rfl)); (case hp => exact (Reps.none _ _)); intro bC bD ad hb hg_ hnew_; clear hg_ hnew_; (first | rw [← bu.out] at ad | (simp only [Int.reduceToNat] at ad; rw [← bu.out] at ad)); replace M := rb M hb; have ae := am (Kd.R_lower (Kd.R_newB (Kd.R_new' ad (rk L)) (g := aa) (o := .cells #[.int .i64 X, .int .i64 Y] 55 (0, 0)) (bf I.out)) (below_size (bs HB.out))); replace L := re L ad hb; replace D := bb D hb rfl; replace I := bb I hb rfl; replace J := bb J hb rfl; replace HB := hs HB hb; clear hb ad; have dc := ao.out; have dd := an.out; obtain ⟨de, df⟩ := bc2 (w := bD) J.out; have dg := blk_frozen J.out; obtain ⟨bE, bF, bG⟩ := Kd.R_slice L.out; subst bG) | ((with_reducible refine gate_builtin (b := .append) (xs := #[.tmp 46, .tmp 48]) rfl ?_); at_builtin; refine Kd.R_append_rows k55 (w0 := w) w.heap.size rfl (.tmp 46) (.tmp 48) 35 55 (.agg #[(.int .i64 0), (.int .i64 0)]) 16 rfl Try.underlying35 info55 rfl (by decide) (by omega) bC bh T _ _ _ (fun k_ => some k_ ≠ (.slice bE T.length bF : Value).ownBlock ∧ k_ ≠ aa) (fun _ => False) rfl rfl ?aO ?aR (fun _ _ h => h) (fun _ h => h.elim) ?aF ?aB ?aS ?aL ?_; (case aR => exact cr L); (case aB => exact (bs HB.out)); (case aF => exact (fun k_ hk => ⟨Kd.fresh' (rk L) k_ hk, Kd.freshB (g := aa) (o := .cells #[.int .i64 X, .int .i64 Y] 55 (0, 0)) (bf I.out) k_ hk⟩)); (case aO => exact (by (with_reducible repeat (first | apply Kd.R_alloc | apply Kd.R_drewN | apply Kd.R_drew)); exact Kd.R_mono ae.out (fun _ hk => ⟨hk.1.2, hk.2⟩))); (case aS => exact (below_size (bs HB.out))); (case aL => have := ch.out; omega); intro dh di ho hb hg hat; rw [← cj.out] at ho; replace L := am (Kd.R_after (ok := (fun k_ => k_ ≠ aa)) (rl L.out) hg hat); replace M := am (Kd.R_over' (rl M.out) (Kd.R_typed (rl ae.out)) (by decide) hg); replace D := gr D ae hg; replace I := am (blk_grown (g := aa) (o := .cells #[.int .i64 X, .int .i64 Y] 55 (0, 0)) (bf I.out) hg (Kd.R_away ae.out (fun _ hk => hk.2))); replace J := gr J ae hg; replace HB := am hb; have ck := am ho; clear ae; clear ho hb hg hat))
     repeat (go_quiet (first | ((with_reducible refine gd 46 rfl ?_); refine Kd.R_lit k55 _ 55 ?hg (N := 46) ?hd (xs := ([] : List (S55))) (inner := []) (ok := fun _ => True) (okp := fun _ => True) ?hr ?hp (fun _ hk => hk) trivial (Below.refl _ _) (Nat.le_refl _) (by simp) ?_; (case hd => rfl); (case hg => rfl); (case hr => first | (go_simp; done) | (go_simp; rfl)); (case hp => exact (Reps.none _ _)); intro bC bD ad hb hg_ hnew_; clear hg_ hnew_; (first | rw [← bu.out] at ad | (simp only [Int.reduceToNat] at ad; rw [← bu.out] at ad)); replace M := rb M hb; have ae := am (Kd.R_lower (Kd.R_newB (Kd.R_new' ad (rk L)) (g := aa) (o := .cells #[.int .i64 X, .int .i64 Y] 55 (0, 0)) (bf I.out)) (below_size (bs HB.out))); replace L := re L ad hb; replace D := bb D hb rfl; replace I := bb I hb rfl; replace J := bb J hb rfl; replace HB := hs HB hb; clear hb ad; have dc := ao.out; have dd := an.out; obtain ⟨de, df⟩ := bc2 (w := bD) J.out; have dg := blk_frozen J.out; obtain ⟨bE, bF, bG⟩ := Kd.R_slice L.out; subst bG) | ((with_reducible refine gate_builtin (b := .append) (xs := #[.tmp 46, .tmp 48]) rfl ?_); at_builtin; refine Kd.R_append_rows k55 (w0 := w) w.heap.size rfl (.tmp 46) (.tmp 48) 35 55 (.agg #[(.int .i64 0), (.int .i64 0)]) 16 rfl Try.underlying35 info55 rfl (by decide) (by omega) bC bh T _ _ _ (fun k_ => some k_ ≠ (.slice bE T.length bF : Value).ownBlock ∧ k_ ≠ aa) (fun _ => False) rfl rfl ?aO ?aR (fun _ _ h => h) (fun _ h => h.elim) ?aF ?aB ?aS ?aL ?_; (case aR => exact cr L); (case aB => exact (bs HB.out)); (case aF => exact (fun k_ hk => ⟨Kd.fresh' (rk L) k_ hk, Kd.freshB (g := aa) (o := .cells #[.int .i64 X, .int .i64 Y] 55 (0, 0)) (bf I.out) k_ hk⟩)); (case aO => exact (by (with_reducible repeat (first | apply Kd.R_alloc | apply Kd.R_drewN | apply Kd.R_drew)); exact Kd.R_mono ae.out (fun _ hk => ⟨hk.1.2, hk.2⟩))); (case aS => exact (below_size (bs HB.out))); (case aL => have := ch.out; omega); intro dh di ho hb hg hat; rw [← cj.out] at ho; replace L := am (Kd.R_after (ok := (fun k_ => k_ ≠ aa)) (rl L.out) hg hat); replace M := am (Kd.R_over' (rl M.out) (Kd.R_typed (rl ae.out)) (by decide) hg); replace D := gr D ae hg; replace I := am (blk_grown (g := aa) (o := .cells #[.int .i64 X, .int .i64 Y] 55 (0, 0)) (bf I.out) hg (Kd.R_away ae.out (fun _ hk => hk.2))); replace J := gr J ae hg; replace HB := am hb; have ck := am ho; clear ae; clear ho hb hg hat)); try go_wp2_with (first | ((with_reducible refine gd 46 rfl ?_); refine Kd.R_lit k55 _ 55 ?hg (N := 46) ?hd (xs := ([] : List (S55))) (inner := []) (ok := fun _ => True) (okp := fun _ => True) ?hr ?hp (fun _ hk => hk) trivial (Below.refl _ _) (Nat.le_refl _) (by simp) ?_; (case hd => rfl); (case hg => rfl); (case hr => first | (go_simp; done) | (go_simp; rfl)); (case hp => exact (Reps.none _ _)); intro bC bD ad hb hg_ hnew_; clear hg_ hnew_; (first | rw [← bu.out] at ad | (simp only [Int.reduceToNat] at ad; rw [← bu.out] at ad)); replace M := rb M hb; have ae := am (Kd.R_lower (Kd.R_newB (Kd.R_new' ad (rk L)) (g := aa) (o := .cells #[.int .i64 X, .int .i64 Y] 55 (0, 0)) (bf I.out)) (below_size (bs HB.out))); replace L := re L ad hb; replace D := bb D hb rfl; replace I := bb I hb rfl; replace J := bb J hb rfl; replace HB := hs HB hb; clear hb ad; have dc := ao.out; have dd := an.out; obtain ⟨de, df⟩ := bc2 (w := bD) J.out; have dg := blk_frozen J.out; obtain ⟨bE, bF, bG⟩ := Kd.R_slice L.out; subst bG) | ((with_reducible refine gate_builtin (b := .append) (xs := #[.tmp 46, .tmp 48]) rfl ?_); at_builtin; refine Kd.R_append_rows k55 (w0 := w) w.heap.size rfl (.tmp 46) (.tmp 48) 35 55 (.agg #[(.int .i64 0), (.int .i64 0)]) 16 rfl Try.underlying35 info55 rfl (by decide) (by omega) bC bh T _ _ _ (fun k_ => some k_ ≠ (.slice bE T.length bF : Value).ownBlock ∧ k_ ≠ aa) (fun _ => False) rfl rfl ?aO ?aR (fun _ _ h => h) (fun _ h => h.elim) ?aF ?aB ?aS ?aL ?_; (case aR => exact cr L); (case aB => exact (bs HB.out)); (case aF => exact (fun k_ hk => ⟨Kd.fresh' (rk L) k_ hk, Kd.freshB (g := aa) (o := .cells #[.int .i64 X, .int .i64 Y] 55 (0, 0)) (bf I.out) k_ hk⟩)); (case aO => exact (by (with_reducible repeat (first | apply Kd.R_alloc | apply Kd.R_drewN | apply Kd.R_drew)); exact Kd.R_mono ae.out (fun _ hk => ⟨hk.1.2, hk.2⟩))); (case aS => exact (below_size (bs HB.out))); (case aL => have := ch.out; omega); intro dh di ho hb hg hat; rw [← cj.out] at ho; replace L := am (Kd.R_after (ok := (fun k_ => k_ ≠ aa)) (rl L.out) hg hat); replace M := am (Kd.R_over' (rl M.out) (Kd.R_typed (rl ae.out)) (by decide) hg); replace D := gr D ae hg; replace I := am (blk_grown (g := aa) (o := .cells #[.int .i64 X, .int .i64 Y] 55 (0, 0)) (bf I.out) hg (Kd.R_away ae.out (fun _ hk => hk.2))); replace J := gr J ae hg; replace HB := am hb; have ck := am ho; clear ae; clear ho hb hg hat)))
     go_ret
     exact ⟨_, eqr, by (with_reducible repeat (first | apply Kd.R_alloc | apply Kd.R_drewN | apply Kd.R_drew)); exact Kd.R_mono ck.out (fun _ hk => trivial), bs HB.out⟩
    ·rw [if_neg bU] at H
     exact absurd H (by simp)

end Go.Proofs.Ytkbamcicbofjbaa.QFnStoreNarrow
