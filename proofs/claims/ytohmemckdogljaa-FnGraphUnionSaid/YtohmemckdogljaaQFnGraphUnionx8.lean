/- Contracts of the Go functions that this law reaches: each does what its plain Lean function says. No condition. -/
import Derived.Test.YtohmemckdogljaaQFnGraphUnionx0
import Derived.Test.YtohmemckdogljaaQFnGraphUnionx1
import Derived.Test.YtohmemckdogljaaQFnGraphUnionx2
namespace Go.Proofs.Ytohmemckdogljaa.QFnGraphUnion
open Go.RowKit Go.Proofs.YtohmemckdogljaaW.PrintWords Go.Proofs.YtohmemckdogljaaW.PrintLast Go.Proofs.YtohmemckdogljaaW.PrintMore Go.Proofs.Ytohmemckdogljaa.Bl
attribute [local go_sem] max2_int min2_int max_two min_two max_three min_three max_four min_four   -- for this text's walks alone
set_option linter.unusedVariables false
set_option linter.unusedSimpArgs false
set_option maxHeartbeats 8000000
set_option maxRecDepth 100000

attribute [local go_sem high] eqA36 eqA56
/-! ### impl_Node_90: function 90 -/
def impl_Node_90.l0 : Nat → List (S36) → List (S36) → Int → Int → Option (Bool)
 | 0, _, _, _, _ => none
 | k + 1, z, D, G, s => if s < G then (if 0 ≤ s then (if s < (z.length : Int) then (if s < (D.length : Int) then (if (!(((rd_T36 z s).f0) == ((rd_T36 D s).f0)) || (!(((rd_T36 z s).f1) == ((rd_T36 D s).f1)))) = true then (some false) else (impl_Node_90.l0 k z D G (wrap64 (s + 1)))) else (none)) else (none)) else (none)) else (some true)
def impl_Node_90.f (k : Nat) (l0 : List (S36)) (l1 : List (S36)) : Option (Bool) := if (l0.length : Int) = (l1.length : Int) then (impl_Node_90.l0 k l0 l1 (l0.length : Int) 0) else (some false)
theorem impl_Node_90.calls (k : Nat) (A0 : Option Addr) (c0 : Nat) (l0 : List (S36)) (A1 : Option Addr) (Y : Nat) (l1 : List (S36)) (r : Bool) (w : World) (ab : Kd.C k36 w A0 l0.length l0) (ac : l0.length ≤ c0) (ae : Kd.C k36 w A1 l1.length l1) (af : l1.length ≤ Y) (h : impl_Node_90.f k l0 l1 = some r) :
  Calls Try.prog 90 #[.slice A0 l0.length c0, .slice A1 l1.length Y] w fun e w' => e = .returned (.bool r) ∧ Drawn0 w w' := by
 have hu36 := Try.underlying36
 have ag := am ab
 have ay := am ac
 clear ab ac
 have ah := am ae
 have az := am af
 clear ae af
 have H := h; unfold impl_Node_90.f at H
 clear h
 by_cases z : (l0.length : Int) = (l1.length : Int)
 ·rw [if_pos z] at H
  have ai : ((l0.length : Int) == (l1.length : Int)) = true := beq_iff_eq.mpr z
  have aj : ((l0.length : Int) != (l1.length : Int)) = false := bne_eq_false_iff_eq.mpr z
  have ak : (l0.length == l1.length) = true := by first | simpa using z | (simp at z ⊢; omega)
  clear z
  have H' := am H
  clear H
  go_enter Try.func90, Try.ntmps90
  go_wp2
  repeat (go_quiet (fail); try go_wp2)
  go_loopg [13] k (fun kq an w' => ∃ (s : Int), an = .int .i64 s ∧ Aside0 (impl_Node_90.l0 kq l0 l1 (l0.length : Int) s = some r) ∧ Aside0 (kq ≤ k) ∧ Drawn0 w w')
  case atStart => exact ⟨(0), eqs, H', ⟨Nat.le_refl _⟩, drs⟩
  case round =>
   clear H'
   try clear Y
   try clear p2
   try clear z
   try clear ai
   try clear aj
   try clear ak
   obtain ⟨s, rfl, HA, al, ⟨m1, rfl⟩⟩ := hrel
   cases gk with
   | zero => exact absurd HA.out (by simp [impl_Node_90.l0])
   | succ k1 =>
    have H := HA.out
    clear HA
    simp only [impl_Node_90.l0] at H
    by_cases L : s < (l0.length : Int)
    ·rw [if_pos L] at H
     have ao : decide (s < (l0.length : Int)) = true := decide_eq_true L
     clear L
     by_cases O : 0 ≤ s
     ·rw [if_pos O] at H
      have aB : decide (0 ≤ s) = true := decide_eq_true O
      clear O
      by_cases T : s < (l0.length : Int)
      ·rw [if_pos T] at H
       have aC : decide (s < (l0.length : Int)) = true := decide_eq_true T
       clear T
       by_cases X : s < (l1.length : Int)
       ·rw [if_pos X] at H
        have aD : decide (s < (l1.length : Int)) = true := decide_eq_true X
        clear X
        by_cases M : (!(((rd_T36 l0 s).f0) == ((rd_T36 l1 s).f0)) || (!(((rd_T36 l0 s).f1) == ((rd_T36 l1 s).f1)))) = true
        ·rw [if_pos M] at H
         have ap : (!(((rd_T36 l0 s).f0) == ((rd_T36 l1 s).f0)) || (!(((rd_T36 l0 s).f1) == ((rd_T36 l1 s).f1)))) = true := M
         clear M
         obtain rfl := Option.some.inj H
         have D : 0 ≤ (s : Int) := oda
         have G : s < (l0.length : Int) := oda
         obtain ⟨aq, Z, ar, au⟩ := at_T36 ag.out s D G
         cases Z
         replace D := eq_true D
         replace G := eq_true G
         have I : 0 ≤ (s : Int) := oda
         have J : s < (l1.length : Int) := oda
         obtain ⟨av, aa, aw, ax⟩ := at_T36 ah.out s I J
         cases aa
         replace I := eq_true I
         replace J := eq_true J
         go_wp2
         repeat (go_quiet (fail); try go_wp2)
         go_ret
         exact ⟨eqs, drs⟩
        ·rw [if_neg M] at H
         have ap : (!(((rd_T36 l0 s).f0) == ((rd_T36 l1 s).f0)) || (!(((rd_T36 l0 s).f1) == ((rd_T36 l1 s).f1)))) = false := by simpa using M
         clear M
         have H' := am H
         clear H
         have D : 0 ≤ (s : Int) := oda
         have G : s < (l0.length : Int) := oda
         obtain ⟨aq, Z, ar, au⟩ := at_T36 ag.out s D G
         cases Z
         replace D := eq_true D
         replace G := eq_true G
         have I : 0 ≤ (s : Int) := oda
         have J : s < (l1.length : Int) := oda
         obtain ⟨av, aa, aw, ax⟩ := at_T36 ah.out s I J
         cases aa
         replace I := eq_true I
         replace J := eq_true J
         go_wp2
         repeat (go_quiet (fail); try go_wp2)
         go_roundg k1
         case measure => have := al.out; omega
         case rel => exact ⟨(wrap64 (s + 1)), eqs, H', ⟨by have := al.out; omega⟩, drs⟩
       ·rw [if_neg X] at H
        exact absurd H (by simp)
      ·rw [if_neg T] at H
       exact absurd H (by simp)
     ·rw [if_neg O] at H
      exact absurd H (by simp)
    ·rw [if_neg L] at H
     have ao : decide (s < (l0.length : Int)) = false := decide_eq_false L
     clear L
     obtain rfl := Option.some.inj H
     go_wp2
     repeat (go_quiet (fail); try go_wp2)
     go_ret
     exact ⟨eqs, drs⟩
 ·rw [if_neg z] at H
  have ai : ((l0.length : Int) == (l1.length : Int)) = false := beq_eq_false_iff_ne.mpr z
  have aj : ((l0.length : Int) != (l1.length : Int)) = true := bne_iff_ne.mpr z
  have ak : (l0.length == l1.length) = false := by first | simpa using z | (simp at z ⊢; omega)
  obtain rfl := Option.some.inj H
  go_enter Try.func90, Try.ntmps90
  go_wp2
  repeat (go_quiet (fail); try go_wp2)
  go_ret
  exact ⟨eqs, drs⟩

/-! ### impl_Edge: function 91 -/
def impl_Edge.l0 : Nat → List (S56) → List (S56) → Int → Int → Option (Bool)
 | 0, _, _, _, _ => none
 | k + 1, z, D, G, s => if s < G then (if 0 ≤ s then (if s < (z.length : Int) then (if s < (D.length : Int) then (if (!(((rd_T56 z s).f0) == ((rd_T56 D s).f0)) || ((!(((rd_T56 z s).f1.f0) == ((rd_T56 D s).f1.f0)) || (!(((rd_T56 z s).f1.f1) == ((rd_T56 D s).f1.f1)))) || ((!(((rd_T56 z s).f2.f0) == ((rd_T56 D s).f2.f0)) || (!(((rd_T56 z s).f2.f1) == ((rd_T56 D s).f2.f1))))))) = true then (some false) else (impl_Edge.l0 k z D G (wrap64 (s + 1)))) else (none)) else (none)) else (none)) else (some true)
def impl_Edge.f (k : Nat) (l0 : List (S56)) (l1 : List (S56)) : Option (Bool) := if (l0.length : Int) = (l1.length : Int) then (impl_Edge.l0 k l0 l1 (l0.length : Int) 0) else (some false)
theorem impl_Edge.calls (k : Nat) (A0 : Option Addr) (c0 : Nat) (l0 : List (S56)) (A1 : Option Addr) (Y : Nat) (l1 : List (S56)) (r : Bool) (w : World) (ab : Kd.C k56 w A0 l0.length l0) (ac : l0.length ≤ c0) (ae : Kd.C k56 w A1 l1.length l1) (af : l1.length ≤ Y) (h : impl_Edge.f k l0 l1 = some r) :
  Calls Try.prog 91 #[.slice A0 l0.length c0, .slice A1 l1.length Y] w fun e w' => e = .returned (.bool r) ∧ Drawn0 w w' := by
 have hu56 := Try.underlying56
 have ag := am ab
 have aE := am ac
 clear ab ac
 have ah := am ae
 have aF := am af
 clear ae af
 have H := h; unfold impl_Edge.f at H
 clear h
 by_cases z : (l0.length : Int) = (l1.length : Int)
 ·rw [if_pos z] at H
  have ai : ((l0.length : Int) == (l1.length : Int)) = true := beq_iff_eq.mpr z
  have aj : ((l0.length : Int) != (l1.length : Int)) = false := bne_eq_false_iff_eq.mpr z
  have ak : (l0.length == l1.length) = true := by first | simpa using z | (simp at z ⊢; omega)
  clear z
  have H' := am H
  clear H
  go_enter Try.func91, Try.ntmps91
  go_wp2
  repeat (go_quiet (fail); try go_wp2)
  go_loopg [13] k (fun kq an w' => ∃ (s : Int), an = .int .i64 s ∧ Aside0 (impl_Edge.l0 kq l0 l1 (l0.length : Int) s = some r) ∧ Aside0 (kq ≤ k) ∧ Drawn0 w w')
  case atStart => exact ⟨(0), eqs, H', ⟨Nat.le_refl _⟩, drs⟩
  case round =>
   clear H'
   try clear Y
   try clear p2
   try clear z
   try clear ai
   try clear aj
   try clear ak
   obtain ⟨s, rfl, HA, al, ⟨m1, rfl⟩⟩ := hrel
   cases gk with
   | zero => exact absurd HA.out (by simp [impl_Edge.l0])
   | succ k1 =>
    have H := HA.out
    clear HA
    simp only [impl_Edge.l0] at H
    by_cases L : s < (l0.length : Int)
    ·rw [if_pos L] at H
     have ao : decide (s < (l0.length : Int)) = true := decide_eq_true L
     clear L
     by_cases O : 0 ≤ s
     ·rw [if_pos O] at H
      have aH : decide (0 ≤ s) = true := decide_eq_true O
      clear O
      by_cases T : s < (l0.length : Int)
      ·rw [if_pos T] at H
       have aI : decide (s < (l0.length : Int)) = true := decide_eq_true T
       clear T
       by_cases X : s < (l1.length : Int)
       ·rw [if_pos X] at H
        have aJ : decide (s < (l1.length : Int)) = true := decide_eq_true X
        clear X
        by_cases M : (!(((rd_T56 l0 s).f0) == ((rd_T56 l1 s).f0)) || ((!(((rd_T56 l0 s).f1.f0) == ((rd_T56 l1 s).f1.f0)) || (!(((rd_T56 l0 s).f1.f1) == ((rd_T56 l1 s).f1.f1)))) || ((!(((rd_T56 l0 s).f2.f0) == ((rd_T56 l1 s).f2.f0)) || (!(((rd_T56 l0 s).f2.f1) == ((rd_T56 l1 s).f2.f1))))))) = true
        ·rw [if_pos M] at H
         have ap : (!(((rd_T56 l0 s).f0) == ((rd_T56 l1 s).f0)) || ((!(((rd_T56 l0 s).f1.f0) == ((rd_T56 l1 s).f1.f0)) || (!(((rd_T56 l0 s).f1.f1) == ((rd_T56 l1 s).f1.f1)))) || ((!(((rd_T56 l0 s).f2.f0) == ((rd_T56 l1 s).f2.f0)) || (!(((rd_T56 l0 s).f2.f1) == ((rd_T56 l1 s).f2.f1))))))) = true := M
         clear M
         obtain rfl := Option.some.inj H
         have D : 0 ≤ (s : Int) := oda
         have G : s < (l0.length : Int) := oda
         obtain ⟨aq, Z, ar, au, av, aw, ax⟩ := at_T56 ag.out s D G
         cases Z
         replace D := eq_true D
         replace G := eq_true G
         have I : 0 ≤ (s : Int) := oda
         have J : s < (l1.length : Int) := oda
         obtain ⟨ay, aa, az, aA, aB, aC, aD⟩ := at_T56 ah.out s I J
         cases aa
         replace I := eq_true I
         replace J := eq_true J
         go_wp2
         repeat (go_quiet (fail); try go_wp2)
         go_ret
         exact ⟨eqs, drs⟩
        ·rw [if_neg M] at H
         have ap : (!(((rd_T56 l0 s).f0) == ((rd_T56 l1 s).f0)) || ((!(((rd_T56 l0 s).f1.f0) == ((rd_T56 l1 s).f1.f0)) || (!(((rd_T56 l0 s).f1.f1) == ((rd_T56 l1 s).f1.f1)))) || ((!(((rd_T56 l0 s).f2.f0) == ((rd_T56 l1 s).f2.f0)) || (!(((rd_T56 l0 s).f2.f1) == ((rd_T56 l1 s).f2.f1))))))) = false := by simpa using M
         clear M
         have H' := am H
         clear H
         have D : 0 ≤ (s : Int) := oda
         have G : s < (l0.length : Int) := oda
         obtain ⟨aq, Z, ar, au, av, aw, ax⟩ := at_T56 ag.out s D G
         cases Z
         replace D := eq_true D
         replace G := eq_true G
         have I : 0 ≤ (s : Int) := oda
         have J : s < (l1.length : Int) := oda
         obtain ⟨ay, aa, az, aA, aB, aC, aD⟩ := at_T56 ah.out s I J
         cases aa
         replace I := eq_true I
         replace J := eq_true J
         go_wp2
         repeat (go_quiet (fail); try go_wp2)
         go_roundg k1
         case measure => have := al.out; omega
         case rel => exact ⟨(wrap64 (s + 1)), eqs, H', ⟨by have := al.out; omega⟩, drs⟩
       ·rw [if_neg X] at H
        exact absurd H (by simp)
      ·rw [if_neg T] at H
       exact absurd H (by simp)
     ·rw [if_neg O] at H
      exact absurd H (by simp)
    ·rw [if_neg L] at H
     have ao : decide (s < (l0.length : Int)) = false := decide_eq_false L
     clear L
     obtain rfl := Option.some.inj H
     go_wp2
     repeat (go_quiet (fail); try go_wp2)
     go_ret
     exact ⟨eqs, drs⟩
 ·rw [if_neg z] at H
  have ai : ((l0.length : Int) == (l1.length : Int)) = false := beq_eq_false_iff_ne.mpr z
  have aj : ((l0.length : Int) != (l1.length : Int)) = true := bne_iff_ne.mpr z
  have ak : (l0.length == l1.length) = false := by first | simpa using z | (simp at z ⊢; omega)
  obtain rfl := Option.some.inj H
  go_enter Try.func91, Try.ntmps91
  go_wp2
  repeat (go_quiet (fail); try go_wp2)
  go_ret
  exact ⟨eqs, drs⟩

/-! ### impl_GraphSame: function 41 -/
def impl_GraphSame.f (k : Nat) (s : List (S36)) (z : List (S56)) (D : List (S36)) (G : List (S56)) : Option (Bool) := (impl_Node_90.f k s D).bind fun I => (if I = true then ((impl_Edge.f k z G).bind fun J => (some J)) else (some false))
theorem impl_GraphSame.calls (k : Nat) (J : Option Addr) (L : Nat) (z : List (S36)) (ab : Option Addr) (ac : Nat) (G : List (S56)) (M : Option Addr) (O : Nat) (D : List (S36)) (ae : Option Addr) (af : Nat) (I : List (S56)) (r : Bool) (w : World) (aj : Kd.C k36 w J z.length z) (ak : z.length ≤ L) (al : Kd.C k56 w ab G.length G) (an : G.length ≤ ac) (ao : Kd.C k36 w M D.length D) (ap : D.length ≤ O) (aq : Kd.C k56 w ae I.length I) (ar : I.length ≤ af) (h : impl_GraphSame.f k z G D I = some r) :
  Calls Try.prog 41 #[.agg #[.slice J z.length L, .slice ab G.length ac], .agg #[.slice M D.length O, .slice ae I.length af]] w fun e w' => e = .returned (.bool r) ∧ Below w.heap.size w w' := by
 have hu34 := Try.underlying34
 have au := am aj
 have av := am ak
 clear aj ak
 have aB := am al
 have aC := am an
 clear al an
 have aw := am ao
 have ax := am ap
 clear ao ap
 have aD := am aq
 have aE := am ar
 clear aq ar
 have HB := am (Below.refl w.heap.size w)
 have H := h; unfold impl_GraphSame.f at H
 clear h
 replace H := Option.bind_eq_some_iff.mp H
 obtain ⟨aF, ay, H⟩ := H
 try dsimp -simprocs only at H
 have A3 := am ay
 clear ay
 by_cases c4 : aF = true
 ·subst c4
  replace H : ((impl_Edge.f k G I).bind fun ag => (some ag)) = some r := by rw [if_pos rfl] at H; exact H
  replace H := Option.bind_eq_some_iff.mp H
  obtain ⟨ag, az, H⟩ := H
  try dsimp -simprocs only at H
  have A5 := am az
  clear az
  obtain rfl := Option.some.inj H
  go_enter Try.func41, Try.ntmps41
  go_wp2_with (first | ((with_reducible refine gd 2 rfl ?_); refine bx 2 (cs := #[.slice J z.length L, .slice ab G.length ac]) (t := 34) ?_; intro aG hg w6 hbox hb; have s := am hbox; have aH := gwb HB hg; replace HB := hs HB hb; clear hb hbox hg) | ((with_reducible refine gd 3 rfl ?_); refine bx 3 (cs := #[.slice M D.length O, .slice ae I.length af]) (t := 34) ?_; intro aI hg w7 hbox hb; have T := am hbox; have aJ := gwb HB hg; replace HB := hs HB hb; have ah := nq s hg; have ai := nq' s hg; replace s := bb s hb rfl; clear hb hbox hg; have aK := ah.out; have aL := ai.out; obtain ⟨aM, aN⟩ := bc2 (w := w7) s.out; have aO := blk_frozen s.out; obtain ⟨aP, aQ⟩ := bc2 (w := w7) T.out; have aR := blk_frozen T.out) | ((with_reducible refine gc 90 rfl ?_); refine gl 9 Try.func90 #[.slice J z.length L, .slice M D.length O] ?_; (with_reducible refine (impl_Node_90.calls k _ _ z _ _ D true _ ?X ?Y ?Z ?aa A3.out).mono ?_); (case X => exact Kd.C_below au.out (bs HB.out)); (case Y => exact av.out); (case Z => exact Kd.C_below aw.out (bs HB.out)); (case aa => exact ax.out); rintro e w' ⟨rfl, ⟨nd, rfl⟩⟩; refine ⟨_, rfl, ?_⟩) | (go_at_call 91; (with_reducible refine (impl_Edge.calls k _ _ G _ _ I ag _ ?X ?Y ?Z ?aa A5.out).mono ?_); (case X => exact Kd.C_below aB.out (bs HB.out)); (case Y => exact aC.out); (case Z => exact Kd.C_below aD.out (bs HB.out)); (case aa => exact aE.out); rintro e w' ⟨rfl, ⟨nd, rfl⟩⟩))
  go_ret
  exact ⟨eqr, bs HB.out⟩
 ·replace c4 := Bool.eq_false_iff.mpr c4
  subst c4
  have H1 : (some false) = some r := by rw [if_neg (show ¬ (false = true) by decide)] at H; exact H
  clear H
  have H := H1
  clear H1
  obtain rfl := Option.some.inj H
  go_enter Try.func41, Try.ntmps41
  go_wp2_with (first | ((with_reducible refine gd 2 rfl ?_); refine bx 2 (cs := #[.slice J z.length L, .slice ab G.length ac]) (t := 34) ?_; intro aG hg aS hbox hb; have s := am hbox; have aH := gwb HB hg; replace HB := hs HB hb; clear hb hbox hg) | ((with_reducible refine gd 3 rfl ?_); refine bx 3 (cs := #[.slice M D.length O, .slice ae I.length af]) (t := 34) ?_; intro aI hg aA hbox hb; have T := am hbox; have aJ := gwb HB hg; replace HB := hs HB hb; have ah := nq s hg; have ai := nq' s hg; replace s := bb s hb rfl; clear hb hbox hg; have aT := ah.out; have aU := ai.out; obtain ⟨aV, aW⟩ := bc2 (w := aA) s.out; have aX := blk_frozen s.out; obtain ⟨aY, aZ⟩ := bc2 (w := aA) T.out; have a4 := blk_frozen T.out) | ((with_reducible refine gc 90 rfl ?_); refine gl 9 Try.func90 #[.slice J z.length L, .slice M D.length O] ?_; (with_reducible refine (impl_Node_90.calls k _ _ z _ _ D false _ ?X ?Y ?Z ?aa A3.out).mono ?_); (case X => exact Kd.C_below au.out (bs HB.out)); (case Y => exact av.out); (case Z => exact Kd.C_below aw.out (bs HB.out)); (case aa => exact ax.out); rintro e w' ⟨rfl, ⟨nd, rfl⟩⟩; refine ⟨_, rfl, ?_⟩))
  go_ret
  exact ⟨eqr, bs HB.out⟩

/-- A state of type 126 at block g of W; what its slices lead to came in by w0. -/
def IsS126 (w0 W : World) (g : Nat) (f0 : List Int) (f1 : Int) : Prop := ∃ s z, W.heap[g]? = some (.cells #[.slice s f0.length z, .int .i64 f1] 126 (0, 0)) ∧ w0.heap.size ≤ g ∧ Kd.C (Kd.int .u8) w0 s f0.length f0
theorem IsS126.grown {w0 W : World} {g : Nat} {f0 : List Int} {f1 : Int} {W1 : World} {row : Option Nat} (h : IsS126 w0 W g f0 f1) (hw : W.grownBy W1 row) (hne : some g ≠ row) : IsS126 w0 W1 g f0 f1 := by
 obtain ⟨s, z, hb, hg, D⟩ := h
 exact ⟨s, z, blk_grown hb hw hne, hg, D⟩
theorem IsS126.own_neN {w0 W : World} {g : Nat} {f0 : List Int} {f1 : Int} {α : Type} {d : Kd α} {e : Nat} {base : Nat} {ok : Nat → Prop} {v : Value} {xs : List α} (h : IsS126 w0 W g f0 f1) (ho : Kd.N d e W base ok v xs) (ht : e ≠ 126) : some g ≠ v.ownBlock := by
 obtain ⟨s, z, hb, hg, D⟩ := h
 exact Kd.N_ne ho hb ht
theorem IsS126.fresh {w0 W : World} {g : Nat} {f0 : List Int} {f1 : Int} (h : IsS126 w0 W g f0 f1) : ∀ k, W.heap.size ≤ k → k ≠ g := by
 obtain ⟨s, z, hb, hg, D⟩ := h
 exact Kd.freshB hb
theorem IsS126.kept {w0 W : World} {g : Nat} {f0 : List Int} {f1 : Int} {W1 : World} {S : Nat → Prop} (h : IsS126 w0 W g f0 f1) (hk : Kept W W1 S) (hne : ¬ S g) : IsS126 w0 W1 g f0 f1 := by
 obtain ⟨s, z, hb, hg, D⟩ := h
 exact ⟨s, z, blk_kept hb hk hne, hg, D⟩
theorem IsS126.below {w0 W : World} {g : Nat} {f0 : List Int} {f1 : Int} {W1 : World} (h : IsS126 w0 W g f0 f1) (hw : Below W.heap.size W W1) : IsS126 w0 W1 g f0 f1 := h.grown (grown_of_below hw none) (by simp)
theorem IsS126.alloc {w0 W : World} {g : Nat} {f0 : List Int} {f1 : Int} (h : IsS126 w0 W g f0 f1) (o : Obj) : IsS126 w0 (W.alloc o) g f0 f1 := h.below (below_alloc (Below.refl _ _) o)
theorem IsS126.drewN {w0 W : World} {g : Nat} {f0 : List Int} {f1 : Int} (h : IsS126 w0 W g f0 f1) (m : Nat) : IsS126 w0 (W.drewN m) g f0 f1 := h
theorem IsS126.drew {w0 W : World} {g : Nat} {f0 : List Int} {f1 : Int} (h : IsS126 w0 W g f0 f1) : IsS126 w0 W.drew g f0 f1 := h
theorem IsS126.at_ {w0 W : World} {g : Nat} {f0 : List Int} {f1 : Int} {w' : World} {m : Nat} (hq : W.drewN m = w') (h : IsS126 w0 W g f0 f1) : IsS126 w0 w' g f0 f1 := by subst hq; exact IsS126.drewN h m
theorem IsS126.apart {w0 W : World} {g : Nat} {f0 : List Int} {f1 : Int} {α : Type} {d : Kd α} {e : Nat} {base : Nat} {ok : Nat → Prop} {v : Value} {xs : List α} (h : IsS126 w0 W g f0 f1) (ho : d.R e W base ok v xs) (ht : ∀ q, q ∈ e :: d.E → q ≠ 126) : d.R e W base (fun k => ok k ∧ k ≠ g) v xs := by
 obtain ⟨s, z, hb, hg, D⟩ := h
 exact Kd.R_types ho hb ht
theorem IsS126.own_ne {w0 W : World} {g : Nat} {f0 : List Int} {f1 : Int} {α : Type} {d : Kd α} {e : Nat} {base : Nat} {ok : Nat → Prop} {v : Value} {xs : List α} (h : IsS126 w0 W g f0 f1) (ho : d.R e W base ok v xs) (ht : e ≠ 126) : some g ≠ v.ownBlock := by
 obtain ⟨s, z, hb, hg, D⟩ := h
 exact Kd.R_ne ho hb ht
theorem IsS126.apartQ {w0 W : World} {g : Nat} {f0 : List Int} {f1 : Int} {α : Type} {d : Kd α} {e : Nat} {base : Nat} {ok : Nat → Prop} {v : Value} {xs : List α} (h : IsS126 w0 W g f0 f1) (ho : d.Q e W base ok v xs) (ht : ∀ q, q ∈ e :: d.E → q ≠ 126) : d.Q e W base (fun k => ok k ∧ k ≠ g) v xs := by
 obtain ⟨s, z, hb, hg, D⟩ := h
 exact Kd.Q_types ho hb ht
theorem IsS126.own_neQ {w0 W : World} {g : Nat} {f0 : List Int} {f1 : Int} {α : Type} {d : Kd α} {e : Nat} {base : Nat} {ok : Nat → Prop} {v : Value} {xs : List α} (h : IsS126 w0 W g f0 f1) (ho : d.Q e W base ok v xs) (ht : e ≠ 126) : some g ≠ v.ownBlock := by
 obtain ⟨s, z, hb, hg, D⟩ := h
 exact Kd.Q_ne ho hb ht
theorem IsS126.apartS {w0 W : World} {g : Nat} {f0 : List Int} {f1 : Int} {α : Type} {d : Kd α} {e : Nat} {base : Nat} {ok : Nat → Prop} {v : Value} {xs : List α} (h : IsS126 w0 W g f0 f1) (ho : d.S e W base ok v xs) (ht : ∀ q, q ∈ e :: d.E → q ≠ 126) : d.S e W base (fun k => ok k ∧ k ≠ g) v xs := by
 obtain ⟨s, z, hb, hg, D⟩ := h
 exact Kd.S_types ho hb ht
theorem IsS126.own_neS {w0 W : World} {g : Nat} {f0 : List Int} {f1 : Int} {α : Type} {d : Kd α} {e : Nat} {base : Nat} {ok : Nat → Prop} {v : Value} {xs : List α} (h : IsS126 w0 W g f0 f1) (ho : d.S e W base ok v xs) (ht : e ≠ 126) : some g ≠ v.ownBlock := by
 obtain ⟨s, z, hb, hg, D⟩ := h
 exact Kd.S_ne ho hb ht
theorem IsS126.lt {w0 W : World} {g : Nat} {f0 : List Int} {f1 : Int} (h : IsS126 w0 W g f0 f1) : g < W.heap.size := by
 obtain ⟨s, z, hb, hg, D⟩ := h
 exact blk_lt hb
theorem IsS126.ge {w0 W : World} {g : Nat} {f0 : List Int} {f1 : Int} (h : IsS126 w0 W g f0 f1) : w0.heap.size ≤ g := by
 obtain ⟨s, z, hb, hg, D⟩ := h
 exact hg
theorem IsS126.ne_blk {w0 W : World} {g : Nat} {f0 : List Int} {f1 : Int} {a : Nat} {cs : Array Value} {t : TypeId} {fr : Nat × Nat} (h : IsS126 w0 W g f0 f1) (hb2 : W.heap[a]? = some (.cells cs t fr)) (ht : t ≠ 126) : g ≠ a := by
 obtain ⟨s, z, hb, hg, D⟩ := h
 rintro rfl
 rw [hb] at hb2
 injection hb2 with hb2
 injection hb2 with _ ht2
 exact ht ht2.symm
theorem IsS126.far {w0 W : World} {g : Nat} {f0 : List Int} {f1 : Int} {p : Addr} (h : IsS126 w0 W g f0 f1) (hne : g ≠ p.block) (u : Value) : IsS126 w0 (W.setCell p u) g f0 f1 := by
 obtain ⟨s, z, hb, hg, D⟩ := h
 exact ⟨s, z, blk_far hb hne u, hg, D⟩
theorem cellS126_0 {W : World} {g : Nat} {s : Option Addr} {z : Nat} {f0 : List Int} {f1 : Int} (h : W.heap[g]? = some (.cells #[.slice s f0.length z, .int .i64 f1] 126 (0, 0))) : W.cell? ⟨g, 0, none⟩ = some (.slice s f0.length z) := (blk_cell h 0).trans rfl
theorem cellS126_1 {W : World} {g : Nat} {s : Option Addr} {z : Nat} {f0 : List Int} {f1 : Int} (h : W.heap[g]? = some (.cells #[.slice s f0.length z, .int .i64 f1] 126 (0, 0))) : W.cell? ⟨g, 1, none⟩ = some (.int .i64 f1) := (blk_cell h 1).trans rfl
theorem IsS126.set_1 {w0 W : World} {g : Nat} {f0 : List Int} {f1 : Int} (h : IsS126 w0 W g f0 f1) (x : Int) : IsS126 w0 (W.setCell ⟨g, 1, none⟩ (.int .i64 x)) g f0 x := by
 obtain ⟨z, D, hb, hg, G⟩ := h
 exact ⟨z, D, by simpa using blk_set hb 1 (.int .i64 x), hg, G⟩
theorem IsS126.new (w0 W : World) (s : Option Addr) (z : Nat) (f0 : List Int) (f1 : Int) (hB : Below w0.heap.size w0 W) (D : Kd.C (Kd.int .u8) w0 s f0.length f0) : IsS126 w0 (W.alloc (.cells #[.slice s f0.length z, .int .i64 f1] 126)) W.heap.size f0 f1 := ⟨s, z, by simpa using heap_alloc_new W _, hB.size, D⟩
/-- What stays of the state behind draws, new blocks, stores. -/
class Hs (w0 W W' : World) (g : Nat) (f0 : List Int) (f1 : Int) (f2 : outParam Int) : Prop where out : IsS126 w0 W g f0 f1 → IsS126 w0 W' g f0 f2
instance {w0 W : World} {g : Nat} {f0 : List Int} {f1 : Int} : Hs w0 W W g f0 f1 f1 := ⟨id⟩
instance {w0 W W' : World} {g : Nat} {f0 : List Int} {f1 f2 : Int} [h : Hs w0 W W' g f0 f1 f2] : Hs w0 W W'.drew g f0 f1 f2 := ⟨fun x => IsS126.drew (h.out x)⟩
instance {w0 W W' : World} {g : Nat} {f0 : List Int} {f1 f2 : Int} [h : Hs w0 W W' g f0 f1 f2] (m : Nat) : Hs w0 W (W'.drewN m) g f0 f1 f2 := ⟨fun x => IsS126.drewN (h.out x) m⟩
instance {w0 W W' : World} {g : Nat} {f0 : List Int} {f1 f2 : Int} [h : Hs w0 W W' g f0 f1 f2] (o : Obj) : Hs w0 W (W'.alloc o) g f0 f1 f2 := ⟨fun x => IsS126.alloc (h.out x) o⟩
instance {w0 W W' : World} {g b j : Nat} {v : Value} {f0 : List Int} {f1 f2 : Int} [h : Hs w0 W W' g f0 f1 f2] [k : Nq g b] : Hs w0 W (W'.setCell ⟨b, j, none⟩ v) g f0 f1 f2 := ⟨fun x => IsS126.far (h.out x) k.out v⟩
instance {w0 W W' : World} {g : Nat} {y : Int} {f0 : List Int} {f1 f2 : Int} [h : Hs w0 W W' g f0 f1 f2] : Hs w0 W (W'.setCell ⟨g, 1, none⟩ (.int .i64 y)) g f0 f1 y := ⟨fun x => IsS126.set_1 (h.out x) y⟩
theorem iis {w0 W W' : World} {g : Nat} {f0 : List Int} {f1 f2 : Int} (h : IsS126 w0 W g f0 f1) [k : Hs w0 W W' g f0 f1 f2] : IsS126 w0 W' g f0 f2 := k.out h
theorem ib {w0 W W' W2 : World} {g : Nat} {f0 : List Int} {f1 f2 : Int} (h : Aside0 (IsS126 w0 W g f0 f1)) (hb : Below W'.heap.size W' W2) [k : Hs w0 W W' g f0 f1 f2] : Aside0 (IsS126 w0 W2 g f0 f2) := ⟨IsS126.below (k.out h.out) hb⟩
theorem nlt {w0 W W' : World} {g q : Nat} {f0 : List Int} {f1 f2 : Int} (h : Aside0 (IsS126 w0 W g f0 f1)) (hg : q = W'.heap.size) [k : Hs w0 W W' g f0 f1 f2] : Nq g q := ⟨by rw [hg]; exact Nat.ne_of_lt (IsS126.lt (k.out h.out))⟩
theorem ro {α : Type} {d : Kd α} {e base : Nat} {ok : Nat → Prop} {v : Value} {xs : List α} {w0 W V W' W2 : World} {g : Nat} {f0 : List Int} {f1 f2 : Int} (r : Aside0 (d.R e V base ok v xs)) (h : Aside0 (IsS126 w0 W g f0 f1)) (hk : KeepBut W' W2 g none) [j : Rf V W'] [k : Hs w0 W W' g f0 f1 f2]
    (ht : ∀ q, q ∈ e :: d.E → q ≠ 126 := by decide) : Aside0 (d.R e W2 base ok v xs) := ⟨Kd.R_mono (Kd.R_keep (IsS126.apart (k.out h.out) (rl r.out) ht) hk (fun _ h => h.2)) (fun _ h => h.1)⟩
theorem rp {α : Type} {d : Kd α} {e base : Nat} {ok : Nat → Prop} {v : Value} {xs : List α} {w0 W V W' W2 : World} {g p t : Nat} {cs : Array Value} {f0 : List Int} {f1 f2 : Int} (r : Aside0 (d.R e V base ok v xs)) (b : Aside0 (V.heap[p]? = some (.cells cs t (0, 0)))) (h : Aside0 (IsS126 w0 W g f0 f1))
    (hk : KeepBut W' W2 g none) [j : Sf p V W'] [k : Hs w0 W W' g f0 f1 f2] (hp : ∀ q, q ∈ e :: d.E → q ≠ t := by decide) (ht : ∀ q, q ∈ e :: d.E → q ≠ 126 := by decide) : Aside0 (d.R e W2 base ok v xs) :=
  ⟨Kd.R_mono (Kd.R_keep (IsS126.apart (k.out h.out) (rt r.out b.out hp) ht) hk (fun _ h => h.2)) (fun _ h => h.1)⟩

/-! ### spec_l9Open: function 86 -/
def spec_l9Open.f (l0 : List Int) : Option (List Int × Int) := if (l0.length : Int) > 2000 then (if 2000 ≤ (l0.length : Int) then (some (l0.take 2000, 0)) else (none)) else (some (l0, 0))
theorem spec_l9Open.calls (z : Option Addr) (D : Nat) (l0 : List Int) (L : List Int) (M : Int) (w0 w : World) (hB : Below w0.heap.size w0 w) (O : Kd.C (Kd.int .u8) w0 z l0.length l0) (T : l0.length ≤ D) (h : spec_l9Open.f l0 = some (L, M)) :
  Calls Try.prog 86 #[.slice z l0.length D] w fun e w' => ∃ g_ : Nat, e = .returned (.pointer (some ⟨g_, 0, none⟩)) ∧ IsS126 w0 w' g_ L M ∧ Below w0.heap.size w0 w' ∧ Below w.heap.size w w' := by
 have hu126 := Try.underlying126
 have X := am O
 have af := am T
 clear O T
 have HBW := am (Below.refl w.heap.size w)
 have Y := am hB.size
 have HB := am hB
 clear hB
 have H := h; unfold spec_l9Open.f at H
 clear h
 by_cases s : (l0.length : Int) > 2000
 ·rw [if_pos s] at H
  have ag : decide (2000 < (l0.length : Int)) = true := decide_eq_true s
  have ah : decide (2000 < l0.length) = true := decide_eq_true (by omega)
  clear s
  by_cases G : 2000 ≤ (l0.length : Int)
  ·rw [if_pos G] at H
   have aq := eq_true G
   have ar : decide (2000 ≤ (l0.length : Int)) = true := decide_eq_true G
   clear G
   simp only [Option.some.injEq, Prod.mk.injEq] at H
   obtain ⟨rfl, rfl⟩ := H
   obtain ⟨au, Z, _, aa, _⟩ := info_parts info5
   obtain ⟨av, ab, ac⟩ := print_take_of (P := Try.prog) (Value.int .u8) 0 51 5 .i64 Try.underlying51 Z aa z D l0 2000 (by omega) (oda) af.out
   have ai := am (Kd.C_of_reads (h1 := fun _ => rfl) (ab _ (Kd.reads_of_C X.out)))
   have aw := am ac
   clear ab ac Z aa
   go_enter Try.func86, Try.ntmps86
   go_wp2_with (first | ((with_reducible refine gd 10 rfl ?_); refine bx 10 (cs := #[.slice z (l0.take 2000).length D, .int .i64 0]) (t := 126) ?_; intro I hg w5 hbox hb; replace HB := hs HB hb; have aj := am hbox; have ak := Ge.mk ((by rw [hg]; exact (below_size (by repeat (first | (with_reducible first | exact HBW.out | apply below_alloc | apply pw_below_drewN | apply below_drew1) | exact HBW.out))) : w.heap.size ≤ I)); have al := Ge.mk ((Nat.le_trans Y.out (by rw [hg]; exact (below_size (by repeat (first | (with_reducible first | exact HBW.out | apply below_alloc | apply pw_below_drewN | apply below_drew1) | exact HBW.out))) : w.heap.size ≤ I) : w0.heap.size ≤ I)); replace HBW := am (below_step HBW.out hb); clear hb hbox hg))
   go_ret
   exact ⟨_, rfl, (show IsS126 w0 _ I (l0.take 2000) 0 from ⟨_, _, by exact bf aj.out, al.out, ai.out⟩), bs HB.out, by repeat (first | (with_reducible first | exact HBW.out | apply below_alloc | apply pw_below_drewN | apply below_drew1 | refine below_set ?_ ak.out) | exact HBW.out)⟩
  ·rw [if_neg G] at H
   exact absurd H (by simp)
 ·rw [if_neg s] at H
  have ag : decide (2000 < (l0.length : Int)) = false := decide_eq_false s
  have ah : decide (2000 < l0.length) = false := decide_eq_false (by omega)
  clear s
  simp only [Option.some.injEq, Prod.mk.injEq] at H
  obtain ⟨rfl, rfl⟩ := H
  go_enter Try.func86, Try.ntmps86
  go_wp2_with (first | ((with_reducible refine gd 10 rfl ?_); refine bx 10 (cs := #[.slice z l0.length D, .int .i64 0]) (t := 126) ?_; intro J hg w6 hbox hb; replace HB := hs HB hb; have an := am hbox; have ao := Ge.mk ((by rw [hg]; exact (below_size (by repeat (first | (with_reducible first | exact HBW.out | apply below_alloc | apply pw_below_drewN | apply below_drew1) | exact HBW.out))) : w.heap.size ≤ J)); have ap := Ge.mk ((Nat.le_trans Y.out (by rw [hg]; exact (below_size (by repeat (first | (with_reducible first | exact HBW.out | apply below_alloc | apply pw_below_drewN | apply below_drew1) | exact HBW.out))) : w.heap.size ≤ J) : w0.heap.size ≤ J)); replace HBW := am (below_step HBW.out hb); clear hb hbox hg))
  go_ret
  exact ⟨_, rfl, (show IsS126 w0 _ J l0 0 from ⟨_, _, by exact bf an.out, ap.out, X.out⟩), bs HB.out, by repeat (first | (with_reducible first | exact HBW.out | apply below_alloc | apply pw_below_drewN | apply below_drew1 | refine below_set ?_ ao.out) | exact HBW.out)⟩

/-! ### spec_l9Rd_pick: function 120 -/
def spec_l9Rd_pick.j0 : Nat → Int → Bool → List Int → Int → Option (Int × Int)
 | 0, _, _, _, _ => none
 | k + 1, D, G, s, z => if G = true then (some (0, z)) else (if (wrap64 (z - 1)) < (s.length : Int) then (if 0 ≤ (wrap64 (z - 1)) then (if D = 0 then (none) else (some (Int.tmod (wrap64 (rd s (wrap64 (z - 1)))) D, z))) else (none)) else (if (s.length : Int) = 0 then (none) else (if 0 ≤ (Int.tmod (wrap64 (z - 1)) (s.length : Int)) then (if (Int.tmod (wrap64 (z - 1)) (s.length : Int)) < (s.length : Int) then (if 0 ≤ (Int.tmod (wrap64 ((wrap64 ((wrap64 (z - 1)) * 7)) + 3)) (s.length : Int)) then (if (Int.tmod (wrap64 ((wrap64 ((wrap64 (z - 1)) * 7)) + 3)) (s.length : Int)) < (s.length : Int) then (if D = 0 then (none) else (some (Int.tmod (Go.bits .xor .i64 (wrap64 ((wrap64 ((wrap64 ((wrap64 ((wrap64 (rd s (Int.tmod (wrap64 (z - 1)) (s.length : Int)))) * 131)) + (wrap64 ((wrap64 (rd s (Int.tmod (wrap64 ((wrap64 ((wrap64 (z - 1)) * 7)) + 3)) (s.length : Int)))) * 1117)))) + (wrap64 ((wrap64 (z - 1)) * 29)))) + (wrap64 ((wrap64 (Int.tdiv (wrap64 (z - 1)) (s.length : Int))) * 53)))) (wrap64 (Int.tdiv (wrap64 ((wrap64 ((wrap64 ((wrap64 ((wrap64 (rd s (Int.tmod (wrap64 (z - 1)) (s.length : Int)))) * 131)) + (wrap64 ((wrap64 (rd s (Int.tmod (wrap64 ((wrap64 ((wrap64 (z - 1)) * 7)) + 3)) (s.length : Int)))) * 1117)))) + (wrap64 ((wrap64 (z - 1)) * 29)))) + (wrap64 ((wrap64 (Int.tdiv (wrap64 (z - 1)) (s.length : Int))) * 53)))) 64))) D, z))) else (none)) else (none)) else (none)) else (none))))
def spec_l9Rd_pick.f (k : Nat) (s : List Int) (D : Int) (z : Int) : Option (Int × Int) := if z < 1 then (spec_l9Rd_pick.j0 k z true s (wrap64 (D + 1))) else (spec_l9Rd_pick.j0 k z ((s.length : Int) == 0) s (wrap64 (D + 1)))
theorem spec_l9Rd_pick.calls (k : Nat) (g : Nat) (s : List Int) (z : Int) (D : Int) (L : Int) (M : Int) (w0 w : World) (hI : IsS126 w0 w g s z) (hB : Below w0.heap.size w0 w) (h : spec_l9Rd_pick.f k s z D = some (L, M)) :
  Calls Try.prog 120 #[.pointer (some ⟨g, 0, none⟩), .int .i64 D] w fun e w' => e = .returned (.int .i64 L) ∧ IsS126 w0 w' g s M ∧ Below w0.heap.size w0 w' ∧ KeepBut w w' g none := by
 have I := am hI
 have GEg_ : Ge w0 g := ⟨IsS126.ge I.out⟩
 have HK := am (KeepBut.refl w g none)
 have HL := am hB.size
 clear hI
 have aX := am hB.size
 have HB := am hB
 clear hB
 have H := h; unfold spec_l9Rd_pick.f at H
 clear h
 have aq := am H
 clear H
 obtain ⟨aY, aZ, ac, aG, a4⟩ := I.out
 have aH := cellS126_0 ac
 have aI := cellS126_1 ac
 have aJ := blk_frozen ac 1
 clear ac aG
 go_enter Try.func120, Try.ntmps120
 go_upto_region 2 with (fail)
 repeat (go_quiet (fail); go_upto_region 2 with (fail))
 go_cut [24] (fun aK wc => ∃ (kq : Nat) (ae : Bool), aK = .bool ae ∧ Aside0 (spec_l9Rd_pick.j0 kq D ae s (wrap64 (z + 1)) = some (L, M)) ∧ Aside0 (kq ≤ k) ∧ Aside0 (IsS126 w0 wc g s (wrap64 (z + 1))) ∧ Aside0 (KeepBut w wc g none) ∧ Aside0 (Below w0.heap.size w0 wc))
 case first =>
  have H := aq.out
  clear aq
  by_cases T : D < 1
  ·rw [if_pos T] at H
   have X : decide (D < 1) = true := decide_eq_true T
   clear T
   (first | rw [X] | (simp only [i64_w, i32_w]; rw [X]) | skip)
   have H' := am H
   clear H
   go_wp2
   repeat (go_quiet (fail); try go_wp2)
   go_meet
   case rel => exact ⟨_, (true), eqs, H', ⟨by first | omega | exact Nat.le_refl _⟩, ⟨iis I.out⟩, ⟨ks HK.out⟩, ⟨bs HB.out⟩⟩
  ·rw [if_neg T] at H
   have X : decide (D < 1) = false := decide_eq_false T
   clear T
   (first | rw [X] | (simp only [i64_w, i32_w]; rw [X]) | skip)
   have H' := am H
   clear H
   obtain ⟨a5, a6, af, aL, a7⟩ := I.out
   have aM := cellS126_0 af
   have aN := cellS126_1 af
   have aO := blk_frozen af 1
   clear af aL
   go_wp2
   repeat (go_quiet (fail); try go_wp2)
   go_meet
   case rel => exact ⟨_, (((s.length : Int) == 0)), eqs, H', ⟨by first | omega | exact Nat.le_refl _⟩, ⟨iis I.out⟩, ⟨ks HK.out⟩, ⟨bs HB.out⟩⟩
 case rest =>
  clear aq
  try clear c1
  try clear p2
  try clear T
  try clear X
  try clear p6
  try clear aH aI
  try clear aM aN
  try clear aJ
  try clear aO
  obtain ⟨kq, ae, rfl, HA, a8, I, HK, HB⟩ := hcut
  cases kq with
  | zero => exact absurd HA.out (by simp [spec_l9Rd_pick.j0])
  | succ a9 =>
   have H := HA.out
   clear HA
   simp only [spec_l9Rd_pick.j0] at H
   by_cases c7 : ae = true
   ·subst c7
    replace H : (some (0, (wrap64 (z + 1)))) = some (L, M) := by rw [if_pos rfl] at H; exact H
    simp only [Option.some.injEq, Prod.mk.injEq] at H
    obtain ⟨rfl, rfl⟩ := H
    go_wp2
    repeat (go_quiet (fail); try go_wp2)
    go_ret
    exact ⟨eqr, iis I.out, bs HB.out, ks HK.out⟩
   ·replace c7 := Bool.eq_false_iff.mpr c7
    subst c7
    have H1 : (if (wrap64 ((wrap64 (z + 1)) - 1)) < (s.length : Int) then (if 0 ≤ (wrap64 ((wrap64 (z + 1)) - 1)) then (if D = 0 then (none) else (some (Int.tmod (wrap64 (rd s (wrap64 ((wrap64 (z + 1)) - 1)))) D, (wrap64 (z + 1))))) else (none)) else (if (s.length : Int) = 0 then (none) else (if 0 ≤ (Int.tmod (wrap64 ((wrap64 (z + 1)) - 1)) (s.length : Int)) then (if (Int.tmod (wrap64 ((wrap64 (z + 1)) - 1)) (s.length : Int)) < (s.length : Int) then (if 0 ≤ (Int.tmod (wrap64 ((wrap64 ((wrap64 ((wrap64 (z + 1)) - 1)) * 7)) + 3)) (s.length : Int)) then (if (Int.tmod (wrap64 ((wrap64 ((wrap64 ((wrap64 (z + 1)) - 1)) * 7)) + 3)) (s.length : Int)) < (s.length : Int) then (if D = 0 then (none) else (some (Int.tmod (Go.bits .xor .i64 (wrap64 ((wrap64 ((wrap64 ((wrap64 ((wrap64 (rd s (Int.tmod (wrap64 ((wrap64 (z + 1)) - 1)) (s.length : Int)))) * 131)) + (wrap64 ((wrap64 (rd s (Int.tmod (wrap64 ((wrap64 ((wrap64 ((wrap64 (z + 1)) - 1)) * 7)) + 3)) (s.length : Int)))) * 1117)))) + (wrap64 ((wrap64 ((wrap64 (z + 1)) - 1)) * 29)))) + (wrap64 ((wrap64 (Int.tdiv (wrap64 ((wrap64 (z + 1)) - 1)) (s.length : Int))) * 53)))) (wrap64 (Int.tdiv (wrap64 ((wrap64 ((wrap64 ((wrap64 ((wrap64 (rd s (Int.tmod (wrap64 ((wrap64 (z + 1)) - 1)) (s.length : Int)))) * 131)) + (wrap64 ((wrap64 (rd s (Int.tmod (wrap64 ((wrap64 ((wrap64 ((wrap64 (z + 1)) - 1)) * 7)) + 3)) (s.length : Int)))) * 1117)))) + (wrap64 ((wrap64 ((wrap64 (z + 1)) - 1)) * 29)))) + (wrap64 ((wrap64 (Int.tdiv (wrap64 ((wrap64 (z + 1)) - 1)) (s.length : Int))) * 53)))) 64))) D, (wrap64 (z + 1))))) else (none)) else (none)) else (none)) else (none)))) = some (L, M) := by rw [if_neg (show ¬ (false = true) by decide)] at H; exact H
    clear H
    have H := H1
    clear H1
    by_cases Y : (wrap64 ((wrap64 (z + 1)) - 1)) < (s.length : Int)
    ·rw [if_pos Y] at H
     have aB : decide ((wrap64 ((wrap64 (z + 1)) - 1)) < (s.length : Int)) = true := decide_eq_true Y
     clear Y
     obtain ⟨O, Z⟩ : ∃ j_ : Int, (wrap64 ((wrap64 (z + 1)) - 1)) = j_ := ⟨_, rfl⟩
     replace H : (if 0 ≤ (O) then (if D = 0 then (none) else (some (Int.tmod (wrap64 (rd s (O))) D, (wrap64 (z + 1))))) else (none)) = some (L, M) := by first | (rw [Z] at H; exact H) | (simp only [Z] at H ⊢; exact H)
     (try rw [Z] at aB)
     have ba : (IntKind.i64.wrap ((wrap64 (z + 1)) - 1)) = O := (i64_w _).trans Z
     by_cases ag : 0 ≤ (O)
     ·rw [if_pos ag] at H
      have bc : decide (0 ≤ (O)) = true := decide_eq_true ag
      clear ag
      by_cases ah : D = 0
      ·rw [if_pos ah] at H
       exact absurd H (by simp)
      ·rw [if_neg ah] at H
       have be : (D == 0) = false := beq_eq_false_iff_ne.mpr ah
       have bg : (D != 0) = true := bne_iff_ne.mpr ah
       simp only [Option.some.injEq, Prod.mk.injEq] at H
       obtain ⟨rfl, rfl⟩ := H
       obtain ⟨bh, bi, ai, aP, aQ⟩ := I.out
       have bj := cellS126_0 ai
       have bk := cellS126_1 ai
       have bl := blk_frozen ai 1
       clear ai aP
       have ar : 0 ≤ ((O) : Int) := oda
       have au : (O) < (s.length : Int) := oda
       obtain ⟨bm, aR, aC⟩ := Kd.at_int aQ (O) ar au
       cases aR
       replace aC := pw_cell_below HB.out aC
       replace ar := eq_true ar
       replace au := eq_true au
       go_wp2
       repeat (go_quiet (fail); try go_wp2)
       go_ret
       exact ⟨by first | rfl | (simp [errW_none, errW_some] <;> rfl) | (simp only [← Z]; first | rfl | (simp [errW_none, errW_some] <;> rfl)) | (simp [*, errW_none, errW_some] <;> rfl), iis I.out, bs HB.out, ks HK.out⟩
     ·rw [if_neg ag] at H
      exact absurd H (by simp)
    ·rw [if_neg Y] at H
     have aB : decide ((wrap64 ((wrap64 (z + 1)) - 1)) < (s.length : Int)) = false := decide_eq_false Y
     clear Y
     by_cases aa : (s.length : Int) = 0
     ·rw [if_pos aa] at H
      exact absurd H (by simp)
     ·rw [if_neg aa] at H
      have bn : ((s.length : Int) == 0) = false := beq_eq_false_iff_ne.mpr aa
      have bo : ((s.length : Int) != 0) = true := bne_iff_ne.mpr aa
      have br : ¬ (s = []) := fun h_ => aa (by rw [h_]; rfl)
      obtain ⟨G, av⟩ : ∃ j_ : Int, (Int.tmod (wrap64 ((wrap64 (z + 1)) - 1)) (s.length : Int)) = j_ := ⟨_, rfl⟩
      replace H : (if 0 ≤ (G) then (if (G) < (s.length : Int) then (if 0 ≤ (Int.tmod (wrap64 ((wrap64 ((wrap64 ((wrap64 (z + 1)) - 1)) * 7)) + 3)) (s.length : Int)) then (if (Int.tmod (wrap64 ((wrap64 ((wrap64 ((wrap64 (z + 1)) - 1)) * 7)) + 3)) (s.length : Int)) < (s.length : Int) then (if D = 0 then (none) else (some (Int.tmod (Go.bits .xor .i64 (wrap64 ((wrap64 ((wrap64 ((wrap64 ((wrap64 (rd s (G))) * 131)) + (wrap64 ((wrap64 (rd s (Int.tmod (wrap64 ((wrap64 ((wrap64 ((wrap64 (z + 1)) - 1)) * 7)) + 3)) (s.length : Int)))) * 1117)))) + (wrap64 ((wrap64 ((wrap64 (z + 1)) - 1)) * 29)))) + (wrap64 ((wrap64 (Int.tdiv (wrap64 ((wrap64 (z + 1)) - 1)) (s.length : Int))) * 53)))) (wrap64 (Int.tdiv (wrap64 ((wrap64 ((wrap64 ((wrap64 ((wrap64 (rd s (G))) * 131)) + (wrap64 ((wrap64 (rd s (Int.tmod (wrap64 ((wrap64 ((wrap64 ((wrap64 (z + 1)) - 1)) * 7)) + 3)) (s.length : Int)))) * 1117)))) + (wrap64 ((wrap64 ((wrap64 (z + 1)) - 1)) * 29)))) + (wrap64 ((wrap64 (Int.tdiv (wrap64 ((wrap64 (z + 1)) - 1)) (s.length : Int))) * 53)))) 64))) D, (wrap64 (z + 1))))) else (none)) else (none)) else (none)) else (none)) = some (L, M) := by first | (rw [av] at H; exact H) | (simp only [av] at H ⊢; exact H)
      by_cases aj : 0 ≤ (G)
      ·rw [if_pos aj] at H
       have bt : decide (0 ≤ (G)) = true := decide_eq_true aj
       clear aj
       by_cases ak : (G) < (s.length : Int)
       ·rw [if_pos ak] at H
        have bu : decide ((G) < (s.length : Int)) = true := decide_eq_true ak
        clear ak
        obtain ⟨J, aw⟩ : ∃ j_ : Int, (Int.tmod (wrap64 ((wrap64 ((wrap64 ((wrap64 (z + 1)) - 1)) * 7)) + 3)) (s.length : Int)) = j_ := ⟨_, rfl⟩
        replace H : (if 0 ≤ (J) then (if (J) < (s.length : Int) then (if D = 0 then (none) else (some (Int.tmod (Go.bits .xor .i64 (wrap64 ((wrap64 ((wrap64 ((wrap64 ((wrap64 (rd s (G))) * 131)) + (wrap64 ((wrap64 (rd s (J))) * 1117)))) + (wrap64 ((wrap64 ((wrap64 (z + 1)) - 1)) * 29)))) + (wrap64 ((wrap64 (Int.tdiv (wrap64 ((wrap64 (z + 1)) - 1)) (s.length : Int))) * 53)))) (wrap64 (Int.tdiv (wrap64 ((wrap64 ((wrap64 ((wrap64 ((wrap64 (rd s (G))) * 131)) + (wrap64 ((wrap64 (rd s (J))) * 1117)))) + (wrap64 ((wrap64 ((wrap64 (z + 1)) - 1)) * 29)))) + (wrap64 ((wrap64 (Int.tdiv (wrap64 ((wrap64 (z + 1)) - 1)) (s.length : Int))) * 53)))) 64))) D, (wrap64 (z + 1))))) else (none)) else (none)) = some (L, M) := by first | (rw [aw] at H; exact H) | (simp only [aw] at H ⊢; exact H)
        by_cases al : 0 ≤ (J)
        ·rw [if_pos al] at H
         have bv : decide (0 ≤ (J)) = true := decide_eq_true al
         clear al
         by_cases an : (J) < (s.length : Int)
         ·rw [if_pos an] at H
          have bw : decide ((J) < (s.length : Int)) = true := decide_eq_true an
          clear an
          by_cases ao : D = 0
          ·rw [if_pos ao] at H
           exact absurd H (by simp)
          ·rw [if_neg ao] at H
           have bz : (D == 0) = false := beq_eq_false_iff_ne.mpr ao
           have bA : (D != 0) = true := bne_iff_ne.mpr ao
           simp only [Option.some.injEq, Prod.mk.injEq] at H
           obtain ⟨rfl, rfl⟩ := H
           obtain ⟨bB, bC, ap, aS, aD⟩ := I.out
           have bD := cellS126_0 ap
           have bE := cellS126_1 ap
           have bF := blk_frozen ap 1
           clear ap aS
           have ax : 0 ≤ ((G) : Int) := oda
           have ay : (G) < (s.length : Int) := oda
           obtain ⟨aT, aU, aE⟩ := Kd.at_int aD (G) ax ay
           cases aU
           replace aE := pw_cell_below HB.out aE
           replace ax := eq_true ax
           replace ay := eq_true ay
           have az : 0 ≤ ((J) : Int) := oda
           have aA : (J) < (s.length : Int) := oda
           obtain ⟨aV, aW, aF⟩ := Kd.at_int aD (J) az aA
           obtain rfl : aT = aV := (by injection aW)
           replace aF := pw_cell_below HB.out aF
           replace az := eq_true az
           replace aA := eq_true aA
           go_wp2
           repeat (go_quiet (fail); try go_wp2)
           go_ret
           exact ⟨by first | rfl | (simp [errW_none, errW_some] <;> rfl) | (simp only [← av, ← aw]; first | rfl | (simp [errW_none, errW_some] <;> rfl)) | (simp [*, errW_none, errW_some] <;> rfl), iis I.out, bs HB.out, ks HK.out⟩
         ·rw [if_neg an] at H
          exact absurd H (by simp)
        ·rw [if_neg al] at H
         exact absurd H (by simp)
       ·rw [if_neg ak] at H
        exact absurd H (by simp)
      ·rw [if_neg aj] at H
       exact absurd H (by simp)

/-! ### spec_l9Rd_num: function 119 -/
def spec_l9Rd_num.f (k : Nat) (z : List Int) (D : Int) (l1 : List Int) : Option (Int × Int) := (spec_l9Rd_pick.f k z D (l1.length : Int)).bind fun s => (if 0 ≤ s.1 then (if s.1 < (l1.length : Int) then (some (rd l1 s.1, s.2)) else (none)) else (none))
theorem spec_l9Rd_num.calls (k : Nat) (g : Nat) (z : List Int) (J : Int) (L : Option Addr) (X : Nat) (l1 : List Int) (Y : Int) (Z : Int) (w0 w : World) (hI : IsS126 w0 w g z J) (hB : Below w0.heap.size w0 w) (aa : Kd.C (Kd.int .i64) w L l1.length l1) (ac : l1.length ≤ X) (M : ∀ ad, L = some ad → 0 < l1.length → ad.block ≠ g) (h : spec_l9Rd_num.f k z J l1 = some (Y, Z)) :
  Calls Try.prog 119 #[.pointer (some ⟨g, 0, none⟩), .slice L l1.length X] w fun e w' => e = .returned (.int .i64 Y) ∧ IsS126 w0 w' g z Z ∧ Below w0.heap.size w0 w' ∧ KeepBut w w' g none := by
 have ag := am aa
 have an := am ac
 clear aa ac
 have D := am hI
 have GEg_ : Ge w0 g := ⟨IsS126.ge D.out⟩
 have HK := am (KeepBut.refl w g none)
 have HL := am hB.size
 clear hI
 have ao := am hB.size
 have HB := am hB
 clear hB
 have H := h; unfold spec_l9Rd_num.f at H
 clear h
 replace H := Option.bind_eq_some_iff.mp H
 obtain ⟨⟨s, ah⟩, ae, H⟩ := H
 try dsimp -simprocs only at H
 have A3 := am ae
 clear ae
 by_cases G : 0 ≤ s
 ·rw [if_pos G] at H
  have ap : decide (0 ≤ s) = true := decide_eq_true G
  clear G
  by_cases I : s < (l1.length : Int)
  ·rw [if_pos I] at H
   have aq : decide (s < (l1.length : Int)) = true := decide_eq_true I
   clear I
   simp only [Option.some.injEq, Prod.mk.injEq] at H
   obtain ⟨rfl, rfl⟩ := H
   go_enter Try.func119, Try.ntmps119
   go_wp2_with (first | ((with_reducible refine gc 120 rfl ?_); refine gl 9 Try.func120 #[.pointer (some ⟨g, 0, none⟩), .int .i64 (l1.length : Int)] ?_; (with_reducible refine (spec_l9Rd_pick.calls k g z J (l1.length : Int) s ah w0 _ ?ai ?aj A3.out).mono ?_); (case ai => exact iis D.out); (case aj => exact bs HB.out); rintro e w6 ⟨rfl, hi, hb, hk⟩; refine ⟨_, rfl, ?_⟩; replace HK := kt HK hk; replace HB := am hb; replace D := am hi; (try clear hi hb hk); have O : 0 ≤ (s : Int) := oda; have T : s < (l1.length : Int) := oda; obtain ⟨ak, al, af⟩ := Kd.at_int ag.out s O T; cases al; replace af := keep_cell HK.out af (by first | (rw [add_block]; exact M _ rfl (by omega)) | exact M _ rfl (by omega) | exact M ak rfl (by omega)); replace O := eq_true O; replace T := eq_true T))
   go_ret
   exact ⟨eqr, iis D.out, bs HB.out, ks HK.out⟩
  ·rw [if_neg I] at H
   exact absurd H (by simp)
 ·rw [if_neg G] at H
  exact absurd H (by simp)

/-! ### spec_l2Node: function 121 -/
def spec_l2Node.f (k : Nat) (s : List Int) (G : Int) : Option (Int × Int × Int) := (spec_l9Rd_num.f k s G (([0, 1, 2, 3, 0, 1, 4, 7] : List Int))).bind fun z => ((spec_l9Rd_num.f k s z.2 (([0, 1, 2, 3, 40] : List Int))).bind fun D => (some (z.1, D.1, D.2)))
theorem spec_l2Node.calls (k : Nat) (g : Nat) (G : List Int) (T : Int) (X : Int) (Y : Int) (Z : Int) (w0 w : World) (hI : IsS126 w0 w g G T) (hB : Below w0.heap.size w0 w) (h : spec_l2Node.f k G T = some (X, Y, Z)) :
  Calls Try.prog 121 #[.pointer (some ⟨g, 0, none⟩)] w fun e w' => e = .returned (.agg #[.int .i64 X, .int .i64 Y]) ∧ IsS126 w0 w' g G Z ∧ Below w0.heap.size w0 w' ∧ KeepBut w w' g none := by
 have hu36 := Try.underlying36
 have s := am hI
 have GEg_ : Ge w0 g := ⟨IsS126.ge s.out⟩
 have HK := am (KeepBut.refl w g none)
 have HL := am hB.size
 clear hI
 have aw := am hB.size
 have HB := am hB
 clear hB
 have H := h; unfold spec_l2Node.f at H
 clear h
 obtain ⟨aa, ab⟩ : ∃ y_ : List Int, y_ = (([0, 1, 2, 3, 0, 1, 4, 7] : List Int)) := ⟨_, rfl⟩
 replace H : ((spec_l9Rd_num.f k G T aa).bind fun an => ((spec_l9Rd_num.f k G an.2 (([0, 1, 2, 3, 40] : List Int))).bind fun M => (some (an.1, M.1, M.2)))) = some (X, Y, Z) := by first | (rw [ab]; exact H) | exact H
 have ao := am ab
 clear ab
 replace H := Option.bind_eq_some_iff.mp H
 obtain ⟨⟨ac, ae⟩, ap, H⟩ := H
 try dsimp -simprocs only at H
 have A2 := am ap
 clear ap
 obtain ⟨af, ag⟩ : ∃ y_ : List Int, y_ = (([0, 1, 2, 3, 40] : List Int)) := ⟨_, rfl⟩
 replace H : ((spec_l9Rd_num.f k G ae af).bind fun M => (some (ac, M.1, M.2))) = some (X, Y, Z) := by first | (rw [ag]; exact H) | exact H
 have aq := am ag
 clear ag
 replace H := Option.bind_eq_some_iff.mp H
 obtain ⟨⟨ar, ax⟩, au, H⟩ := H
 try dsimp -simprocs only at H
 have A3 := am au
 clear au
 simp only [Option.some.injEq, Prod.mk.injEq] at H
 obtain ⟨rfl, rfl, rfl⟩ := H
 go_enter Try.func121, Try.ntmps121
 go_wp2_with (first | ((with_reducible refine gd 2 rfl ?_); refine bx 2 (cs := #[.int .i64 0, .int .i64 0]) (t := 36) ?_; intro ay hg w4 hbox hb; replace HB := hs HB hb; have z := am hbox; have az := gwk HK hg; have aI := gew aw az; replace HK := kb HK hb; have av := nlt s hg; have aA := nsy av; replace s := ib s hb; clear hb hbox hg) | ((with_reducible refine gd 4 rfl ?_); refine rli (k := .i64) 3 4 ([0, 1, 2, 3, 0, 1, 4, 7] : List Int) ?_; intro aJ w5 O hb hg_ hnew_; clear hg_ hnew_; (first | rw [← ao.out] at O | (simp only [Int.reduceToNat] at O; rw [← ao.out] at O)); have D := am (Kd.R_lower O (keep_size (w := w) (g := g) (row := none) (ks HK.out))); replace s := ib s hb; replace z := bb z hb rfl; replace HK := kb HK hb; replace HB := hs HB hb; clear hb O; obtain ⟨aB, aC, aD⟩ := Kd.R_slice D.out; subst aD) | ((with_reducible refine gc 119 rfl ?_); refine gl 5 Try.func119 #[.pointer (some ⟨g, 0, none⟩), .slice aB aa.length aC] ?_; (with_reducible refine (spec_l9Rd_num.calls k g G T _ _ aa ac ae w0 _ ?ah ?ai ?aj ?ak ?al A2.out).mono ?_); (case ah => exact iis s.out); (case ai => exact bs HB.out); (case aj => exact cr D); (case ak => exact cc D); (case al => exact far_slice (IsS126.own_ne s.out D.out (by decide))); rintro e w8 ⟨rfl, hi, hb, hk⟩; refine ⟨_, rfl, ?_⟩; replace z := kk z hk; replace D := ro D s hk; replace HK := kt HK hk; replace HB := am hb; replace s := am hi; (try clear hi hb hk)) | ((with_reducible refine gd 7 rfl ?_); refine rli (k := .i64) 3 7 ([0, 1, 2, 3, 40] : List Int) ?_; intro aK w9 J hb hg_ hnew_; clear hg_ hnew_; (first | rw [← aq.out] at J | (simp only [Int.reduceToNat] at J; rw [← aq.out] at J)); have L := am (Kd.R_lower (Kd.R_new' J (rk D)) (keep_size (w := w) (g := g) (row := none) (ks HK.out))); replace D := re D J hb; replace s := ib s hb; replace z := bb z hb rfl; replace HK := kb HK hb; replace HB := hs HB hb; clear hb J; obtain ⟨aE, aF, aG⟩ := Kd.R_slice L.out; subst aG) | ((with_reducible refine gc 119 rfl ?_); refine gl 8 Try.func119 #[.pointer (some ⟨g, 0, none⟩), .slice aE af.length aF] ?_; (with_reducible refine (spec_l9Rd_num.calls k g G ae _ _ af ar ax w0 _ ?ah ?ai ?aj ?ak ?al A3.out).mono ?_); (case ah => exact iis s.out); (case ai => exact bs HB.out); (case aj => exact cr L); (case ak => exact cc L); (case al => exact far_slice (IsS126.own_ne s.out L.out (by decide))); rintro e aH ⟨rfl, hi, hb, hk⟩; refine ⟨_, rfl, ?_⟩; replace z := kk z hk; replace D := ro D s hk; replace L := ro L s hk; replace HK := kt HK hk; replace HB := am hb; replace s := am hi; (try clear hi hb hk); have aL := aA.out; have aM := av.out; obtain ⟨aN, aO⟩ := bc2 (w := aH) z.out; have aP := blk_frozen z.out))
 refine bodyPost_ret (results_cell_row rfl _ _ ay 36 #[.int .i64 ac, .int .i64 ar] (0, 0) _ rfl (bp z.out rfl) Try.underlying36 rfl (by kernel_rfl)) rfl ?_
 exact ⟨eqr, iis s.out, bs HB.out, ks HK.out⟩

end Go.Proofs.Ytohmemckdogljaa.QFnGraphUnion
