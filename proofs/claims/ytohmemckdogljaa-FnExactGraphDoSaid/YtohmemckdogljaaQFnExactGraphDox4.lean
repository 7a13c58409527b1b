/- Contracts of the Go functions that this law reaches: each does what its plain Lean function says. No condition. -/
import Derived.Test.YtohmemckdogljaaQFnExactGraphDox0
import Derived.Test.YtohmemckdogljaaQFnExactGraphDox3
namespace Go.Proofs.Ytohmemckdogljaa.QFnExactGraphDo
open Go.RowKit Go.Proofs.YtohmemckdogljaaW.PrintWords Go.Proofs.YtohmemckdogljaaW.PrintLast Go.Proofs.YtohmemckdogljaaW.PrintMore Go.Proofs.Ytohmemckdogljaa.Bl
attribute [local go_sem] max2_int min2_int max_two min_two max_three min_three max_four min_four   -- for this text's walks alone
set_option linter.unusedVariables false
set_option linter.unusedSimpArgs false
set_option maxHeartbeats 8000000
set_option maxRecDepth 100000

/-! ### laws_eqEdgeS: function 71 -/
def laws_eqEdgeS.l0 : Nat → List (S56) → List (S56) → Int → Option (Bool)
 | 0, _, _, _ => none
 | k + 1, y, z, s => if s < (y.length : Int) then (if 0 ≤ s then (if s < (z.length : Int) then ((laws_eqEdge.f ((rd_T56 y s).f0) ((rd_T56 y s).f1.f0) ((rd_T56 y s).f1.f1) ((rd_T56 y s).f2.f0) ((rd_T56 y s).f2.f1) ((rd_T56 z s).f0) ((rd_T56 z s).f1.f0) ((rd_T56 z s).f1.f1) ((rd_T56 z s).f2.f0) ((rd_T56 z s).f2.f1)).bind fun D => (if D = true then (laws_eqEdgeS.l0 k y z (wrap64 (s + 1))) else (some false))) else (none)) else (none)) else (some true)
def laws_eqEdgeS.f (k : Nat) (l0 : List (S56)) (l1 : List (S56)) : Option (Bool) := if (l0.length : Int) = (l1.length : Int) then (laws_eqEdgeS.l0 k l0 l1 0) else (some false)
theorem laws_eqEdgeS.calls (k : Nat) (A0 : Option Addr) (c0 : Nat) (l0 : List (S56)) (A1 : Option Addr) (c1 : Nat) (l1 : List (S56)) (r : Bool) (w : World) (aG : Kd.C k56 w A0 l0.length l0) (aH : l0.length ≤ c0) (aI : Kd.C k56 w A1 l1.length l1) (aJ : l1.length ≤ c1) (h : laws_eqEdgeS.f k l0 l1 = some r) :
  Calls Try.prog 71 #[.slice A0 l0.length c0, .slice A1 l1.length c1] w fun e w' => e = .returned (.bool r) ∧ Below w.heap.size w w' := by
 have hu56 := Try.underlying56
 have aK := am aG
 have aT := am aH
 clear aG aH
 have aL := am aI
 have aU := am aJ
 clear aI aJ
 have HB := am (Below.refl w.heap.size w)
 have H := h; unfold laws_eqEdgeS.f at H
 clear h
 by_cases G : (l0.length : Int) = (l1.length : Int)
 ·rw [if_pos G] at H
  have aM : ((l0.length : Int) == (l1.length : Int)) = true := beq_iff_eq.mpr G
  have aN : ((l0.length : Int) != (l1.length : Int)) = false := bne_eq_false_iff_eq.mpr G
  have aO : (l0.length == l1.length) = true := by first | simpa using G | (simp at G ⊢; omega)
  clear G
  have H' := am H
  clear H
  go_enter Try.func71, Try.ntmps71
  go_wp2
  go_loopg [5] k (fun kq v5 w' => ∃ (s : Int), v5 = .int .i64 s ∧ Aside0 (laws_eqEdgeS.l0 kq l0 l1 s = some r) ∧ Aside0 (kq ≤ k) ∧ Aside0 (Below w.heap.size w w'))
  case atStart => exact ⟨(0), eqs, H', ⟨Nat.le_refl _⟩, ⟨bs HB.out⟩⟩
  case round =>
   clear H'
   try clear c1
   try clear p2
   try clear G
   try clear aM
   try clear aN
   try clear aO
   obtain ⟨s, rfl, HA, aP, HB⟩ := hrel
   cases gk with
   | zero => exact absurd HA.out (by simp [laws_eqEdgeS.l0])
   | succ k1 =>
    have H := HA.out
    clear HA
    simp only [laws_eqEdgeS.l0] at H
    by_cases c4 : s < (l0.length : Int)
    ·rw [if_pos c4] at H
     have aR : decide (s < (l0.length : Int)) = true := decide_eq_true c4
     clear c4
     by_cases c5 : 0 ≤ s
     ·rw [if_pos c5] at H
      have aV : decide (0 ≤ s) = true := decide_eq_true c5
      clear c5
      by_cases c6 : s < (l1.length : Int)
      ·rw [if_pos c6] at H
       have aW : decide (s < (l1.length : Int)) = true := decide_eq_true c6
       clear c6
       replace H := Option.bind_eq_some_iff.mp H
       obtain ⟨aS, aQ, H⟩ := H
       try dsimp -simprocs only at H
       have A7 := am aQ
       clear aQ
       by_cases c8 : aS = true
       ·subst c8
        replace H : (laws_eqEdgeS.l0 k1 l0 l1 (wrap64 (s + 1))) = some r := by rw [if_pos rfl] at H; exact H
        have H' := am H
        clear H
        try go_wp2
        replace HB := hd HB
        have ad : 0 ≤ (s : Int) := oda
        have ae : s < (l0.length : Int) := oda
        obtain ⟨z, ah, L, M, O, T, X⟩ := at_T56 aK.out s ad ae
        have ai := X
        have aj := T
        have ak := O
        have al := M
        have an := L
        cases ah
        replace L := cb HB L
        replace M := cb HB M
        replace O := cb HB O
        replace T := cb HB T
        replace X := cb HB X
        replace ad := eq_true ad
        replace ae := eq_true ae
        have af : 0 ≤ (s : Int) := oda
        have ag : s < (l1.length : Int) := oda
        obtain ⟨D, ao, Y, Z, aa, ab, ac⟩ := at_T56 aL.out s af ag
        have ap := ac
        have aq := ab
        have ar := aa
        have au := Z
        have av := Y
        cases ao
        replace Y := cb HB Y
        replace Z := cb HB Z
        replace aa := cb HB aa
        replace ab := cb HB ab
        replace ac := cb HB ac
        replace af := eq_true af
        replace ag := eq_true ag
        refine wp_region_bel (by kernel_rfl) (by kernel_rfl) ?_
        generalize wr.drew = I at HB L M O T X Y Z aa ab ac ⊢
        have hbp_ := fun (p_ : Bel I) => below_step HB.out p_.h
        have aw : ∀ p_ : Bel I, p_.v.cell? (z.add ((s).toNat * 5)) = some (.int .i64 ((rd_T56 l0 s).f0)) := fun p_ => cell_bel ((cb HB an)) p_
        have ax : ∀ p_ : Bel I, p_.v.cell? ⟨(z.add ((s).toNat * 5)).block, (z.add ((s).toNat * 5)).off + 1, none⟩ = some (.int .i64 ((rd_T56 l0 s).f1.f0)) := fun p_ => cell_bel ((cb HB al)) p_
        have ay : ∀ p_ : Bel I, p_.v.cell? ⟨(z.add ((s).toNat * 5)).block, (z.add ((s).toNat * 5)).off + 2, none⟩ = some (.int .i64 ((rd_T56 l0 s).f1.f1)) := fun p_ => cell_bel ((cb HB ak)) p_
        have az : ∀ p_ : Bel I, p_.v.cell? ⟨(z.add ((s).toNat * 5)).block, (z.add ((s).toNat * 5)).off + 3, none⟩ = some (.int .i64 ((rd_T56 l0 s).f2.f0)) := fun p_ => cell_bel ((cb HB aj)) p_
        have aA : ∀ p_ : Bel I, p_.v.cell? ⟨(z.add ((s).toNat * 5)).block, (z.add ((s).toNat * 5)).off + 4, none⟩ = some (.int .i64 ((rd_T56 l0 s).f2.f1)) := fun p_ => cell_bel ((cb HB ai)) p_
        have aB : ∀ p_ : Bel I, p_.v.cell? (D.add ((s).toNat * 5)) = some (.int .i64 ((rd_T56 l1 s).f0)) := fun p_ => cell_bel ((cb HB av)) p_
        have aC : ∀ p_ : Bel I, p_.v.cell? ⟨(D.add ((s).toNat * 5)).block, (D.add ((s).toNat * 5)).off + 1, none⟩ = some (.int .i64 ((rd_T56 l1 s).f1.f0)) := fun p_ => cell_bel ((cb HB au)) p_
        have aD : ∀ p_ : Bel I, p_.v.cell? ⟨(D.add ((s).toNat * 5)).block, (D.add ((s).toNat * 5)).off + 2, none⟩ = some (.int .i64 ((rd_T56 l1 s).f1.f1)) := fun p_ => cell_bel ((cb HB ar)) p_
        have aE : ∀ p_ : Bel I, p_.v.cell? ⟨(D.add ((s).toNat * 5)).block, (D.add ((s).toNat * 5)).off + 3, none⟩ = some (.int .i64 ((rd_T56 l1 s).f2.f0)) := fun p_ => cell_bel ((cb HB aq)) p_
        have aF : ∀ p_ : Bel I, p_.v.cell? ⟨(D.add ((s).toNat * 5)).block, (D.add ((s).toNat * 5)).off + 4, none⟩ = some (.int .i64 ((rd_T56 l1 s).f2.f1)) := fun p_ => cell_bel ((cb HB ap)) p_
        repeat (go_big_quiet_step (first
         | (with_reducible show Calls Try.prog 111 #[.agg #[.int .i64 ((rd_T56 l0 s).f0), .int .i64 ((rd_T56 l0 s).f1.f0), .int .i64 ((rd_T56 l0 s).f1.f1), .int .i64 ((rd_T56 l0 s).f2.f0), .int .i64 ((rd_T56 l0 s).f2.f1)], .agg #[.int .i64 ((rd_T56 l1 s).f0), .int .i64 ((rd_T56 l1 s).f1.f0), .int .i64 ((rd_T56 l1 s).f1.f1), .int .i64 ((rd_T56 l1 s).f2.f0), .int .i64 ((rd_T56 l1 s).f2.f1)]] _ _; with_reducible exact calls_bel (laws_eqEdge.calls ((rd_T56 l0 s).f0) ((rd_T56 l0 s).f1.f0) ((rd_T56 l0 s).f1.f1) ((rd_T56 l0 s).f2.f0) ((rd_T56 l0 s).f2.f1) ((rd_T56 l1 s).f0) ((rd_T56 l1 s).f1.f0) ((rd_T56 l1 s).f1.f1) ((rd_T56 l1 s).f2.f0) ((rd_T56 l1 s).f2.f1) true _ A7.out))))
        refine wpQuiet_nil ?_
        intro aX hw'
        obtain ⟨⟨wq_, hb⟩, hw''⟩ := hw'
        subst hw''
        clear hbp_ aw ax ay az aA aB aC aD aE aF
        replace HB := hs HB hb
        (try clear hb)
        (try clear hb2)
        (try clear hk)
        (try clear hi)
        try go_wp2
        go_roundg k1
        case measure => have := aP.out; omega
        case rel => exact ⟨(wrap64 (s + 1)), eqs, H', ⟨by have := aP.out; omega⟩, ⟨bs HB.out⟩⟩
       ·replace c8 := Bool.eq_false_iff.mpr c8
        subst c8
        have H1 : (some false) = some r := by rw [if_neg (show ¬ (false = true) by decide)] at H; exact H
        clear H
        have H := H1
        clear H1
        obtain rfl := Option.some.inj H
        try go_wp2
        replace HB := hd HB
        have ad : 0 ≤ (s : Int) := oda
        have ae : s < (l0.length : Int) := oda
        obtain ⟨z, ah, L, M, O, T, X⟩ := at_T56 aK.out s ad ae
        have ai := X
        have aj := T
        have ak := O
        have al := M
        have an := L
        cases ah
        replace L := cb HB L
        replace M := cb HB M
        replace O := cb HB O
        replace T := cb HB T
        replace X := cb HB X
        replace ad := eq_true ad
        replace ae := eq_true ae
        have af : 0 ≤ (s : Int) := oda
        have ag : s < (l1.length : Int) := oda
        obtain ⟨D, ao, Y, Z, aa, ab, ac⟩ := at_T56 aL.out s af ag
        have ap := ac
        have aq := ab
        have ar := aa
        have au := Z
        have av := Y
        cases ao
        replace Y := cb HB Y
        replace Z := cb HB Z
        replace aa := cb HB aa
        replace ab := cb HB ab
        replace ac := cb HB ac
        replace af := eq_true af
        replace ag := eq_true ag
        refine wp_region_bel (by kernel_rfl) (by kernel_rfl) ?_
        generalize wr.drew = J at HB L M O T X Y Z aa ab ac ⊢
        have hbp_ := fun (p_ : Bel J) => below_step HB.out p_.h
        have aw : ∀ p_ : Bel J, p_.v.cell? (z.add ((s).toNat * 5)) = some (.int .i64 ((rd_T56 l0 s).f0)) := fun p_ => cell_bel ((cb HB an)) p_
        have ax : ∀ p_ : Bel J, p_.v.cell? ⟨(z.add ((s).toNat * 5)).block, (z.add ((s).toNat * 5)).off + 1, none⟩ = some (.int .i64 ((rd_T56 l0 s).f1.f0)) := fun p_ => cell_bel ((cb HB al)) p_
        have ay : ∀ p_ : Bel J, p_.v.cell? ⟨(z.add ((s).toNat * 5)).block, (z.add ((s).toNat * 5)).off + 2, none⟩ = some (.int .i64 ((rd_T56 l0 s).f1.f1)) := fun p_ => cell_bel ((cb HB ak)) p_
        have az : ∀ p_ : Bel J, p_.v.cell? ⟨(z.add ((s).toNat * 5)).block, (z.add ((s).toNat * 5)).off + 3, none⟩ = some (.int .i64 ((rd_T56 l0 s).f2.f0)) := fun p_ => cell_bel ((cb HB aj)) p_
        have aA : ∀ p_ : Bel J, p_.v.cell? ⟨(z.add ((s).toNat * 5)).block, (z.add ((s).toNat * 5)).off + 4, none⟩ = some (.int .i64 ((rd_T56 l0 s).f2.f1)) := fun p_ => cell_bel ((cb HB ai)) p_
        have aB : ∀ p_ : Bel J, p_.v.cell? (D.add ((s).toNat * 5)) = some (.int .i64 ((rd_T56 l1 s).f0)) := fun p_ => cell_bel ((cb HB av)) p_
        have aC : ∀ p_ : Bel J, p_.v.cell? ⟨(D.add ((s).toNat * 5)).block, (D.add ((s).toNat * 5)).off + 1, none⟩ = some (.int .i64 ((rd_T56 l1 s).f1.f0)) := fun p_ => cell_bel ((cb HB au)) p_
        have aD : ∀ p_ : Bel J, p_.v.cell? ⟨(D.add ((s).toNat * 5)).block, (D.add ((s).toNat * 5)).off + 2, none⟩ = some (.int .i64 ((rd_T56 l1 s).f1.f1)) := fun p_ => cell_bel ((cb HB ar)) p_
        have aE : ∀ p_ : Bel J, p_.v.cell? ⟨(D.add ((s).toNat * 5)).block, (D.add ((s).toNat * 5)).off + 3, none⟩ = some (.int .i64 ((rd_T56 l1 s).f2.f0)) := fun p_ => cell_bel ((cb HB aq)) p_
        have aF : ∀ p_ : Bel J, p_.v.cell? ⟨(D.add ((s).toNat * 5)).block, (D.add ((s).toNat * 5)).off + 4, none⟩ = some (.int .i64 ((rd_T56 l1 s).f2.f1)) := fun p_ => cell_bel ((cb HB ap)) p_
        repeat (go_big_quiet_step (first
         | (with_reducible show Calls Try.prog 111 #[.agg #[.int .i64 ((rd_T56 l0 s).f0), .int .i64 ((rd_T56 l0 s).f1.f0), .int .i64 ((rd_T56 l0 s).f1.f1), .int .i64 ((rd_T56 l0 s).f2.f0), .int .i64 ((rd_T56 l0 s).f2.f1)], .agg #[.int .i64 ((rd_T56 l1 s).f0), .int .i64 ((rd_T56 l1 s).f1.f0), .int .i64 ((rd_T56 l1 s).f1.f1), .int .i64 ((rd_T56 l1 s).f2.f0), .int .i64 ((rd_T56 l1 s).f2.f1)]] _ _; with_reducible exact calls_bel (laws_eqEdge.calls ((rd_T56 l0 s).f0) ((rd_T56 l0 s).f1.f0) ((rd_T56 l0 s).f1.f1) ((rd_T56 l0 s).f2.f0) ((rd_T56 l0 s).f2.f1) ((rd_T56 l1 s).f0) ((rd_T56 l1 s).f1.f0) ((rd_T56 l1 s).f1.f1) ((rd_T56 l1 s).f2.f0) ((rd_T56 l1 s).f2.f1) false _ A7.out))))
        refine wpQuiet_nil ?_
        intro aY hw'
        obtain ⟨⟨wq_, hb⟩, hw''⟩ := hw'
        subst hw''
        clear hbp_ aw ax ay az aA aB aC aD aE aF
        replace HB := hs HB hb
        (try clear hb)
        (try clear hb2)
        (try clear hk)
        (try clear hi)
        try go_wp2
        go_ret
        exact ⟨eqr, bs HB.out⟩
      ·rw [if_neg c6] at H
       exact absurd H (by simp)
     ·rw [if_neg c5] at H
      exact absurd H (by simp)
    ·rw [if_neg c4] at H
     have aR : decide (s < (l0.length : Int)) = false := decide_eq_false c4
     clear c4
     obtain rfl := Option.some.inj H
     go_wp2
     go_ret
     exact ⟨eqr, bs HB.out⟩
 ·rw [if_neg G] at H
  have aM : ((l0.length : Int) == (l1.length : Int)) = false := beq_eq_false_iff_ne.mpr G
  have aN : ((l0.length : Int) != (l1.length : Int)) = true := bne_iff_ne.mpr G
  have aO : (l0.length == l1.length) = false := by first | simpa using G | (simp at G ⊢; omega)
  obtain rfl := Option.some.inj H
  go_enter Try.func71, Try.ntmps71
  go_wp2
  go_ret
  exact ⟨eqr, bs HB.out⟩

/-! ### laws_eqGraph: function 22 -/
def laws_eqGraph.f (k : Nat) (s : List (S36)) (y : List (S56)) (z : List (S36)) (D : List (S56)) : Option (Bool) := (laws_eqNodeS.f k s z).bind fun G => (if G = true then ((laws_eqEdgeS.f k y D).bind fun I => (if I = true then (some true) else (some false))) else (some false))
theorem laws_eqGraph.calls (k : Nat) (T : Option Addr) (X : Nat) (z : List (S36)) (aa : Option Addr) (ab : Nat) (G : List (S56)) (Y : Option Addr) (Z : Nat) (D : List (S36)) (ac : Option Addr) (ad : Nat) (I : List (S56)) (r : Bool) (w : World) (al : Kd.C k36 w T z.length z) (an : z.length ≤ X) (ao : Kd.C k56 w aa G.length G) (ap : G.length ≤ ab) (aq : Kd.C k36 w Y D.length D) (ar : D.length ≤ Z) (au : Kd.C k56 w ac I.length I) (av : I.length ≤ ad) (h : laws_eqGraph.f k z G D I = some r) :
  Calls Try.prog 22 #[.agg #[.slice T z.length X, .slice aa G.length ab], .agg #[.slice Y D.length Z, .slice ac I.length ad]] w fun e w' => e = .returned (.bool r) ∧ Below w.heap.size w w' := by
 have hu34 := Try.underlying34
 have ag := am al
 have ah := am an
 clear al an
 have aw := am ao
 have ax := am ap
 clear ao ap
 have ai := am aq
 have aj := am ar
 clear aq ar
 have ay := am au
 have az := am av
 clear au av
 have HB := am (Below.refl w.heap.size w)
 have H := h; unfold laws_eqGraph.f at H
 clear h
 replace H := Option.bind_eq_some_iff.mp H
 obtain ⟨aK, aA, H⟩ := H
 try dsimp -simprocs only at H
 have A3 := am aA
 clear aA
 by_cases c4 : aK = true
 ·subst c4
  replace H : ((laws_eqEdgeS.f k G I).bind fun ak => (if ak = true then (some true) else (some false))) = some r := by rw [if_pos rfl] at H; exact H
  replace H := Option.bind_eq_some_iff.mp H
  obtain ⟨ak, aB, H⟩ := H
  try dsimp -simprocs only at H
  have A5 := am aB
  clear aB
  by_cases c6 : ak = true
  ·subst c6
   replace H : (some true) = some r := by rw [if_pos rfl] at H; exact H
   obtain rfl := Option.some.inj H
   go_enter Try.func22, Try.ntmps22
   go_wp2_with (first | ((with_reducible refine gd 2 rfl ?_); refine bx 2 (cs := #[.slice T z.length X, .slice aa G.length ab]) (t := 34) ?_; intro aC hg w7 hbox hb; have s := am hbox; have aD := gwb HB hg; replace HB := hs HB hb; clear hb hbox hg) | ((with_reducible refine gd 3 rfl ?_); refine bx 3 (cs := #[.slice Y D.length Z, .slice ac I.length ad]) (t := 34) ?_; intro aE hg w8 hbox hb; have y := am hbox; have aF := gwb HB hg; replace HB := hs HB hb; have ae := nq s hg; have af := nq' s hg; replace s := bb s hb rfl; clear hb hbox hg; have aL := ae.out; have aM := af.out; obtain ⟨aN, aO⟩ := bc2 (w := w8) s.out; have aP := blk_frozen s.out; obtain ⟨aQ, aR⟩ := bc2 (w := w8) y.out; have aS := blk_frozen y.out) | ((with_reducible refine gc 21 rfl ?_); refine gl 9 Try.func21 #[.slice T z.length X, .slice Y D.length Z] ?_; (with_reducible refine (laws_eqNodeS.calls k _ _ z _ _ D true _ ?J ?L ?M ?O A3.out).mono ?_); (case J => exact Kd.C_below ag.out (bs HB.out)); (case L => exact ah.out); (case M => exact Kd.C_below ai.out (bs HB.out)); (case O => exact aj.out); rintro e aG ⟨rfl, hb⟩; refine ⟨_, rfl, ?_⟩; replace s := bb s hb rfl; replace y := bb y hb rfl; replace HB := hs HB hb; (try clear hb); obtain ⟨aT, aU⟩ := bc2 (w := aG) s.out; have aV := blk_frozen s.out; obtain ⟨aW, aX⟩ := bc2 (w := aG) y.out; have aY := blk_frozen y.out) | ((with_reducible refine gc 71 rfl ?_); refine gl 15 Try.func71 #[.slice aa G.length ab, .slice ac I.length ad] ?_; (with_reducible refine (laws_eqEdgeS.calls k _ _ G _ _ I true _ ?J ?L ?M ?O A5.out).mono ?_); (case J => exact Kd.C_below aw.out (bs HB.out)); (case L => exact ax.out); (case M => exact Kd.C_below ay.out (bs HB.out)); (case O => exact az.out); rintro e aZ ⟨rfl, hb⟩; refine ⟨_, rfl, ?_⟩; replace s := bb s hb rfl; replace y := bb y hb rfl; replace HB := hs HB hb; (try clear hb)))
   go_ret
   exact ⟨eqr, bs HB.out⟩
  ·replace c6 := Bool.eq_false_iff.mpr c6
   subst c6
   have H1 : (some false) = some r := by rw [if_neg (show ¬ (false = true) by decide)] at H; exact H
   clear H
   have H := H1
   clear H1
   obtain rfl := Option.some.inj H
   go_enter Try.func22, Try.ntmps22
   go_wp2_with (first | ((with_reducible refine gd 2 rfl ?_); refine bx 2 (cs := #[.slice T z.length X, .slice aa G.length ab]) (t := 34) ?_; intro aC hg a4 hbox hb; have s := am hbox; have aD := gwb HB hg; replace HB := hs HB hb; clear hb hbox hg) | ((with_reducible refine gd 3 rfl ?_); refine bx 3 (cs := #[.slice Y D.length Z, .slice ac I.length ad]) (t := 34) ?_; intro aE hg aH hbox hb; have y := am hbox; have aF := gwb HB hg; replace HB := hs HB hb; have ae := nq s hg; have af := nq' s hg; replace s := bb s hb rfl; clear hb hbox hg; have a5 := ae.out; have a6 := af.out; obtain ⟨a7, a8⟩ := bc2 (w := aH) s.out; have a9 := blk_frozen s.out; obtain ⟨ba, bc⟩ := bc2 (w := aH) y.out; have be := blk_frozen y.out) | ((with_reducible refine gc 21 rfl ?_); refine gl 9 Try.func21 #[.slice T z.length X, .slice Y D.length Z] ?_; (with_reducible refine (laws_eqNodeS.calls k _ _ z _ _ D true _ ?J ?L ?M ?O A3.out).mono ?_); (case J => exact Kd.C_below ag.out (bs HB.out)); (case L => exact ah.out); (case M => exact Kd.C_below ai.out (bs HB.out)); (case O => exact aj.out); rintro e aI ⟨rfl, hb⟩; refine ⟨_, rfl, ?_⟩; replace s := bb s hb rfl; replace y := bb y hb rfl; replace HB := hs HB hb; (try clear hb); obtain ⟨bg, bh⟩ := bc2 (w := aI) s.out; have bi := blk_frozen s.out; obtain ⟨bj, bk⟩ := bc2 (w := aI) y.out; have bl := blk_frozen y.out) | ((with_reducible refine gc 71 rfl ?_); refine gl 15 Try.func71 #[.slice aa G.length ab, .slice ac I.length ad] ?_; (with_reducible refine (laws_eqEdgeS.calls k _ _ G _ _ I false _ ?J ?L ?M ?O A5.out).mono ?_); (case J => exact Kd.C_below aw.out (bs HB.out)); (case L => exact ax.out); (case M => exact Kd.C_below ay.out (bs HB.out)); (case O => exact az.out); rintro e bm ⟨rfl, hb⟩; refine ⟨_, rfl, ?_⟩; replace s := bb s hb rfl; replace y := bb y hb rfl; replace HB := hs HB hb; (try clear hb)))
   go_ret
   exact ⟨eqr, bs HB.out⟩
 ·replace c4 := Bool.eq_false_iff.mpr c4
  subst c4
  have H1 : (some false) = some r := by rw [if_neg (show ¬ (false = true) by decide)] at H; exact H
  clear H
  have H := H1
  clear H1
  obtain rfl := Option.some.inj H
  go_enter Try.func22, Try.ntmps22
  go_wp2_with (first | ((with_reducible refine gd 2 rfl ?_); refine bx 2 (cs := #[.slice T z.length X, .slice aa G.length ab]) (t := 34) ?_; intro aC hg bn hbox hb; have s := am hbox; have aD := gwb HB hg; replace HB := hs HB hb; clear hb hbox hg) | ((with_reducible refine gd 3 rfl ?_); refine bx 3 (cs := #[.slice Y D.length Z, .slice ac I.length ad]) (t := 34) ?_; intro aE hg aJ hbox hb; have y := am hbox; have aF := gwb HB hg; replace HB := hs HB hb; have ae := nq s hg; have af := nq' s hg; replace s := bb s hb rfl; clear hb hbox hg; have bo := ae.out; have br := af.out; obtain ⟨bt, bu⟩ := bc2 (w := aJ) s.out; have bv := blk_frozen s.out; obtain ⟨bw, bz⟩ := bc2 (w := aJ) y.out; have bA := blk_frozen y.out) | ((with_reducible refine gc 21 rfl ?_); refine gl 9 Try.func21 #[.slice T z.length X, .slice Y D.length Z] ?_; (with_reducible refine (laws_eqNodeS.calls k _ _ z _ _ D false _ ?J ?L ?M ?O A3.out).mono ?_); (case J => exact Kd.C_below ag.out (bs HB.out)); (case L => exact ah.out); (case M => exact Kd.C_below ai.out (bs HB.out)); (case O => exact aj.out); rintro e bB ⟨rfl, hb⟩; refine ⟨_, rfl, ?_⟩; replace s := bb s hb rfl; replace y := bb y hb rfl; replace HB := hs HB hb; (try clear hb)))
  go_ret
  exact ⟨eqr, bs HB.out⟩

/-! ### laws_markNodeS: function 24 -/
def laws_markNodeS.l0 : Nat → List (S36) → Int → Int → Option (Int × (List (S36)))
 | 0, _, _, _ => none
 | k + 1, y, z, s => if s < (y.length : Int) then (if 0 ≤ s then ((some (y.set (s : Int).toNat (⟨z, (rd_T36 y s).f1⟩ : S36) : List (S36))).bind fun D => (laws_markNodeS.l0 k (D.set (s : Int).toNat (⟨(rd_T36 D s).f0, wrap64 (z + 1)⟩ : S36)) (wrap64 ((wrap64 (z + 1)) + 1)) (wrap64 (s + 1)))) else (none)) else (some (z, y))
def laws_markNodeS.f (k : Nat) (l0 : List (S36)) (s : Int) : Option (Int × (List (S36))) := laws_markNodeS.l0 k l0 s 0
theorem laws_markNodeS.calls (k : Nat) (P0_ : Nat → Prop) (O : Value) (l0 : List (S36)) (a1 : Int) (T : Int) (X : List (S36)) (w0 w : World) (hB : Below w0.heap.size w0 w) (aC : Kd.R k36 36 w w0.heap.size P0_ O l0) (h : laws_markNodeS.f k l0 a1 = some (T, X)) :
  Calls Try.prog 24 #[O, .int .i64 a1] w fun e w' => e = .returned (.int .i64 T) ∧ Kd.R k36 36 w' w0.heap.size (fun k_ => (P0_ k_ ∨ w.heap.size ≤ k_)) O X ∧ Below w0.heap.size w0 w' ∧ Kept w w' (fun k_ => P0_ k_) := by
 have aD := am (show Kd.R k36 36 w w0.heap.size (fun k_ => (P0_ k_ ∨ w.heap.size ≤ k_)) O l0 from Kd.R_mono aC (fun k_ hk => (.inl hk)))
 have HK := am (Kept.refl w (fun k_ => P0_ k_))
 have aQ := am hB.size
 have HB := am hB
 clear hB
 have H := h; unfold laws_markNodeS.f at H
 clear h
 have H' := am H
 clear H
 go_enter Try.func24, Try.ntmps24
 go_wp2
 go_loopg [1, 5] k (fun kq v1 v5 w' => ∃ (y : List (S36)) (G : Int) (s : Int), v1 = .int .i64 G ∧ v5 = .int .i64 s ∧ Aside0 (laws_markNodeS.l0 kq y G s = some (T, X)) ∧ Aside0 (kq ≤ k) ∧ Aside0 (Kd.R k36 36 w' w0.heap.size (fun k_ => (P0_ k_ ∨ w.heap.size ≤ k_)) O y) ∧ Aside0 (Kept w w' (fun k_ => P0_ k_)) ∧ Aside0 (Below w0.heap.size w0 w'))
 case atStart => exact ⟨(l0), (a1), (0), eqs, eqs, H', ⟨Nat.le_refl _⟩, ⟨rl aD.out⟩, ⟨ts HK.out⟩, ⟨bs HB.out⟩⟩
 case round =>
  clear H'
  try clear c2
  try clear p2
  obtain ⟨y, G, s, rfl, rfl, HA, an, z, HK, HB⟩ := hrel
  cases gk with
  | zero => exact absurd HA.out (by simp [laws_markNodeS.l0])
  | succ k1 =>
   have H := HA.out
   clear HA
   simp only [laws_markNodeS.l0] at H
   by_cases M : s < (y.length : Int)
   ·rw [if_pos M] at H
    have aE : decide (s < (y.length : Int)) = true := decide_eq_true M
    clear M
    by_cases Y : 0 ≤ s
    ·rw [if_pos Y] at H
     have aR : decide (0 ≤ s) = true := decide_eq_true Y
     clear Y
     obtain ⟨J, aa⟩ : ∃ y_ : List (S36), y_ = (y.set (s : Int).toNat (⟨G, (rd_T36 y s).f1⟩ : S36)) := ⟨_, rfl⟩
     replace H : (laws_markNodeS.l0 k1 (J.set (s : Int).toNat (⟨(rd_T36 J s).f0, wrap64 (G + 1)⟩ : S36)) (wrap64 ((wrap64 (G + 1)) + 1)) (wrap64 (s + 1))) = some (T, X) := by first | (rw [aa]; exact H) | exact H
     have aF := am aa
     clear aa
     obtain ⟨ab, ac⟩ : ∃ y_ : List (S36), y_ = (J.set (s : Int).toNat (⟨(rd_T36 J s).f0, wrap64 (G + 1)⟩ : S36)) := ⟨_, rfl⟩
     replace H : (laws_markNodeS.l0 k1 ab (wrap64 ((wrap64 (G + 1)) + 1)) (wrap64 (s + 1))) = some (T, X) := by first | (rw [ac]; exact H) | exact H
     have aG := am ac
     clear ac
     have H' := am H
     clear H
     obtain ⟨aS, Z, aH⟩ := Kd.R_slice z.out
     subst aH
     have p5 : 0 ≤ (s : Int) := oda
     have q5 : (s : Int) < ((y.length : Int) : Int) := oda
     obtain ⟨D, aT, ao, ap, aI, aU, aq⟩ := Kd.R_form z.out (by omega)
     (first | cases ao | (injection ao with ea_ en_ ec_; (first | subst ea_ | (injection ea_ with ea_; subst ea_)); subst ec_; clear en_))
     have ar := am ap
     have aV := am aq
     clear ap aI aq
     have HMgo5 := am (show (P0_ D ∨ w.heap.size ≤ D) from (z.out.1 _ rfl))
     obtain ⟨aW, aJ, au, ad, ae⟩ := Kd.R_elem z.out z36 (s : Int) p5 q5
     obtain rfl := k36_openM au
     have aX : wr.cell? ⟨D, (s : Int).toNat * 2, none⟩ = some (.int .i64 ((rd_T36 y s).f0)) := ad 0 _ rfl
     have aY : wr.cell? ⟨D, (s : Int).toNat * 2 + 1, none⟩ = some (.int .i64 ((rd_T36 y s).f1)) := ad 1 _ rfl
     have aZ : wr.frozen? ⟨D, (s : Int).toNat * 2, none⟩ = false := ae 0
     have a4 : wr.frozen? ⟨D, (s : Int).toNat * 2 + 1, none⟩ = false := ae 1
     clear aJ ad ae au
     replace p5 := eq_true p5
     replace q5 := eq_true q5
     have HX8 := am (show Kd.R k36 36 wr w0.heap.size (fun k_ => (P0_ k_ ∨ w.heap.size ≤ k_)) (.slice (some ⟨D, 0, none⟩) y.length Z) y from (rl z.out))
     obtain ⟨a5, av, aw, af, ax⟩ := Kd.R_elem HX8.out z36 (s : Int) (oda) (by have h_ : (s : Int) < ((y.length : Int) : Int) := oda; first | exact h_ | (have e_ := (Kd.R_reads' z.out).1; omega) | simpa using h_)
     obtain rfl := k36_openM aw
     have ag := Kd.R_seg HX8.out (s : Int) (oda) (by have h_ : (s : Int) < ((y.length : Int) : Int) := oda; first | exact h_ | (have e_ := (Kd.R_reads' z.out).1; omega) | simpa using h_) (seg := [.int .i64 G]) (j := 0) av af (show 1 ≤ 2 from by decide) (x' := (⟨G, (rd_T36 y s).f1⟩ : S36)) (k36_mkM _ _ _ (⟨G, (rd_T36 y s).f1⟩ : S36) ) (fun _ hk => hk)
     have aK := af 0 _ rfl
     (try simp only [show (k36).sz = 2 from rfl, Nat.mul_one, Nat.add_zero] at aK)
     have aL := ax 0
     (try simp only [show (k36).sz = 2 from rfl, Nat.mul_one, Nat.add_zero] at aL)
     clear av af ax aw
     go_wp2_with (first | ((with_reducible refine gate_store (t := 3) (p := 16) rfl ?_); refine store_event (t := 3) (p := 16) (v := ?vo_w9) (w1 := (wr.setCell ⟨D, (s : Int).toNat * 2, none⟩ (.int .i64 G))) ?hg ?ho ?hn ?hr ?_; (case ho => rfl); (case hg => rfl); (case hn => rfl); (case hr => first | (go_simp; done) | (go_simp; rfl)); intro L hw; have hg : wr.grownBy L (some D) := (by rw [hw]; exact ag.2); have hp_ : Kd.R k36 36 L w0.heap.size (fun k_ => (P0_ k_ ∨ w.heap.size ≤ k_)) (.slice (some ⟨D, 0, none⟩) y.length Z) J := (by rw [hw, aF.out]; exact ag.1); clear ag; replace HB := am ((by rw [hw]; exact below_set (HB.out) ar.out : Below w0.heap.size w0 L)); replace HK := am (Kept.of_grown (S := (fun k_ => P0_ k_)) hg (ts HK.out) (fun k_ e_ => (z.out.1 k_ e_))); replace z := am hp_; clear hg hw hp_; have p6 : 0 ≤ (s : Int) := oda; have q6 : (s : Int) < ((y.length : Int) : Int) := oda; obtain ⟨a6, aM, ay, ah, ai⟩ := Kd.R_elem z.out z36 (s : Int) p6 q6; obtain rfl := k36_openM ay; have a7 : L.cell? ⟨D, (s : Int).toNat * 2, none⟩ = some (.int .i64 ((rd_T36 J s).f0)) := ah 0 _ rfl; have a8 : L.cell? ⟨D, (s : Int).toNat * 2 + 1, none⟩ = some (.int .i64 ((rd_T36 J s).f1)) := ah 1 _ rfl; have a9 : L.frozen? ⟨D, (s : Int).toNat * 2, none⟩ = false := ai 0; have ba : L.frozen? ⟨D, (s : Int).toNat * 2 + 1, none⟩ = false := ai 1; clear aM ah ai ay; replace p6 := eq_true p6; replace q6 := eq_true q6; have HX10 := am (show Kd.R k36 36 L w0.heap.size (fun k_ => (P0_ k_ ∨ w.heap.size ≤ k_)) (.slice (some ⟨D, 0, none⟩) y.length Z) J from (rl z.out)); obtain ⟨bc, az, aA, aj, aB⟩ := Kd.R_elem HX10.out z36 (s : Int) (oda) (by have h_ : (s : Int) < ((y.length : Int) : Int) := oda; first | exact h_ | (have e_ := (Kd.R_reads' z.out).1; omega) | simpa using h_); obtain rfl := k36_openM aA; have ak := Kd.R_seg HX10.out (s : Int) (oda) (by have h_ : (s : Int) < ((y.length : Int) : Int) := oda; first | exact h_ | (have e_ := (Kd.R_reads' z.out).1; omega) | simpa using h_) (seg := [.int .i64 (wrap64 (G + 1))]) (j := 1) az aj (show 2 ≤ 2 from by decide) (x' := (⟨(rd_T36 J s).f0, wrap64 (G + 1)⟩ : S36)) (k36_mkM _ _ _ (⟨(rd_T36 J s).f0, wrap64 (G + 1)⟩ : S36) ) (fun _ hk => hk); have aN := aj 1 _ rfl; (try simp only [show (k36).sz = 2 from rfl, Nat.mul_one, Nat.add_zero] at aN); have aO := aB 1; (try simp only [show (k36).sz = 2 from rfl, Nat.mul_one, Nat.add_zero] at aO); clear az aj aB aA) | ((with_reducible refine gate_store (t := 3) (p := 23) rfl ?_); refine store_event (t := 3) (p := 23) (v := ?vo_w11) (w1 := (L.setCell ⟨D, (s : Int).toNat * 2 + 1, none⟩ (.int .i64 (wrap64 (G + 1))))) ?hg ?ho ?hn ?hr ?_; (case ho => rfl); (case hg => rfl); (case hn => rfl); (case hr => first | (go_simp; done) | (go_simp; rfl)); intro al hw; have hg : L.grownBy al (some D) := (by rw [hw]; exact ak.2); have hp_ : Kd.R k36 36 al w0.heap.size (fun k_ => (P0_ k_ ∨ w.heap.size ≤ k_)) (.slice (some ⟨D, 0, none⟩) y.length Z) ab := (by rw [hw, aG.out]; exact ak.1); clear ak; replace HB := am ((by rw [hw]; exact below_set (HB.out) ar.out : Below w0.heap.size w0 al)); replace HK := am (Kept.of_grown (S := (fun k_ => P0_ k_)) hg (ts HK.out) (fun k_ e_ => (z.out.1 k_ e_))); replace z := am hp_; clear hg hw hp_))
     go_roundg k1
     case measure => have := an.out; omega
     case rel => exact ⟨(ab), (wrap64 ((wrap64 (G + 1)) + 1)), (wrap64 (s + 1)), eqs, eqs, H', ⟨by have := an.out; omega⟩, ⟨rl z.out⟩, ⟨ts HK.out⟩, ⟨bs HB.out⟩⟩
    ·rw [if_neg Y] at H
     exact absurd H (by simp)
   ·rw [if_neg M] at H
    have aE : decide (s < (y.length : Int)) = false := decide_eq_false M
    clear M
    simp only [Option.some.injEq, Prod.mk.injEq] at H
    obtain ⟨rfl, rfl⟩ := H
    obtain ⟨be, bg, aP⟩ := Kd.R_slice z.out
    subst aP
    go_wp2
    go_ret
    exact ⟨eqr, by (with_reducible repeat (first | apply Kd.R_alloc | apply Kd.R_drewN | apply Kd.R_drew)); exact z.out, bs HB.out, ts HK.out⟩

/-! ### laws_markEdgeS: function 72 -/
def laws_markEdgeS.l0 : Nat → List (S56) → Int → Int → Option (Int × (List (S56)))
 | 0, _, _, _ => none
 | k + 1, y, z, s => if s < (y.length : Int) then (if 0 ≤ s then ((some (y.set (s : Int).toNat (⟨z, (⟨(rd_T56 y s).f1.f0, (rd_T56 y s).f1.f1⟩ : S36), (⟨(rd_T56 y s).f2.f0, (rd_T56 y s).f2.f1⟩ : S36)⟩ : S56) : List (S56))).bind fun D => ((some (D.set (s : Int).toNat (⟨(rd_T56 D s).f0, (⟨wrap64 (z + 1), (rd_T56 D s).f1.f1⟩ : S36), (⟨(rd_T56 D s).f2.f0, (rd_T56 D s).f2.f1⟩ : S36)⟩ : S56) : List (S56))).bind fun G => ((some (G.set (s : Int).toNat (⟨(rd_T56 G s).f0, (⟨(rd_T56 G s).f1.f0, wrap64 ((wrap64 (z + 1)) + 1)⟩ : S36), (⟨(rd_T56 G s).f2.f0, (rd_T56 G s).f2.f1⟩ : S36)⟩ : S56) : List (S56))).bind fun I => ((some (I.set (s : Int).toNat (⟨(rd_T56 I s).f0, (⟨(rd_T56 I s).f1.f0, (rd_T56 I s).f1.f1⟩ : S36), (⟨wrap64 ((wrap64 ((wrap64 (z + 1)) + 1)) + 1), (rd_T56 I s).f2.f1⟩ : S36)⟩ : S56) : List (S56))).bind fun J => (laws_markEdgeS.l0 k (J.set (s : Int).toNat (⟨(rd_T56 J s).f0, (⟨(rd_T56 J s).f1.f0, (rd_T56 J s).f1.f1⟩ : S36), (⟨(rd_T56 J s).f2.f0, wrap64 ((wrap64 ((wrap64 ((wrap64 (z + 1)) + 1)) + 1)) + 1)⟩ : S36)⟩ : S56)) (wrap64 ((wrap64 ((wrap64 ((wrap64 ((wrap64 (z + 1)) + 1)) + 1)) + 1)) + 1)) (wrap64 (s + 1))))))) else (none)) else (some (z, y))
def laws_markEdgeS.f (k : Nat) (l0 : List (S56)) (s : Int) : Option (Int × (List (S56))) := laws_markEdgeS.l0 k l0 s 0
theorem laws_markEdgeS.calls (k : Nat) (P0_ : Nat → Prop) (al : Value) (l0 : List (S56)) (a1 : Int) (r1 : Int) (r2 : List (S56)) (w0 w : World) (hB : Below w0.heap.size w0 w) (a9 : Kd.R k56 56 w w0.heap.size P0_ al l0) (h : laws_markEdgeS.f k l0 a1 = some (r1, r2)) :
  Calls Try.prog 72 #[al, .int .i64 a1] w fun e w' => e = .returned (.int .i64 r1) ∧ Kd.R k56 56 w' w0.heap.size (fun k_ => (P0_ k_ ∨ w.heap.size ≤ k_)) al r2 ∧ Below w0.heap.size w0 w' ∧ Kept w w' (fun k_ => P0_ k_) := by
 have ba := am (show Kd.R k56 56 w w0.heap.size (fun k_ => (P0_ k_ ∨ w.heap.size ≤ k_)) al l0 from Kd.R_mono a9 (fun k_ hk => (.inl hk)))
 have HK := am (Kept.refl w (fun k_ => P0_ k_))
 have bH := am hB.size
 have HB := am hB
 clear hB
 have H := h; unfold laws_markEdgeS.f at H
 clear h
 have H' := am H
 clear H
 go_enter Try.func72, Try.ntmps72
 go_wp2
 go_loopg [1, 5] k (fun kq v1 v5 w' => ∃ (z : List (S56)) (D : Int) (s : Int), v1 = .int .i64 D ∧ v5 = .int .i64 s ∧ Aside0 (laws_markEdgeS.l0 kq z D s = some (r1, r2)) ∧ Aside0 (kq ≤ k) ∧ Aside0 (Kd.R k56 56 w' w0.heap.size (fun k_ => (P0_ k_ ∨ w.heap.size ≤ k_)) al z) ∧ Aside0 (Kept w w' (fun k_ => P0_ k_)) ∧ Aside0 (Below w0.heap.size w0 w'))
 case atStart => exact ⟨(l0), (a1), (0), eqs, eqs, H', ⟨Nat.le_refl _⟩, ⟨rl ba.out⟩, ⟨ts HK.out⟩, ⟨bs HB.out⟩⟩
 case round =>
  clear H'
  try clear p2
  obtain ⟨z, D, s, rfl, rfl, HA, aH, L, HK, HB⟩ := hrel
  cases gk with
  | zero => exact absurd HA.out (by simp [laws_markEdgeS.l0])
  | succ k1 =>
   have H := HA.out
   clear HA
   simp only [laws_markEdgeS.l0] at H
   by_cases c3 : s < (z.length : Int)
   ·rw [if_pos c3] at H
    have bc : decide (s < (z.length : Int)) = true := decide_eq_true c3
    clear c3
    by_cases c4 : 0 ≤ s
    ·rw [if_pos c4] at H
     have bI : decide (0 ≤ s) = true := decide_eq_true c4
     clear c4
     obtain ⟨O, ao⟩ : ∃ y_ : List (S56), y_ = (z.set (s : Int).toNat (⟨D, (⟨(rd_T56 z s).f1.f0, (rd_T56 z s).f1.f1⟩ : S36), (⟨(rd_T56 z s).f2.f0, (rd_T56 z s).f2.f1⟩ : S36)⟩ : S56)) := ⟨_, rfl⟩
     replace H : ((some (O.set (s : Int).toNat (⟨(rd_T56 O s).f0, (⟨wrap64 (D + 1), (rd_T56 O s).f1.f1⟩ : S36), (⟨(rd_T56 O s).f2.f0, (rd_T56 O s).f2.f1⟩ : S36)⟩ : S56) : List (S56))).bind fun M => ((some (M.set (s : Int).toNat (⟨(rd_T56 M s).f0, (⟨(rd_T56 M s).f1.f0, wrap64 ((wrap64 (D + 1)) + 1)⟩ : S36), (⟨(rd_T56 M s).f2.f0, (rd_T56 M s).f2.f1⟩ : S36)⟩ : S56) : List (S56))).bind fun J => ((some (J.set (s : Int).toNat (⟨(rd_T56 J s).f0, (⟨(rd_T56 J s).f1.f0, (rd_T56 J s).f1.f1⟩ : S36), (⟨wrap64 ((wrap64 ((wrap64 (D + 1)) + 1)) + 1), (rd_T56 J s).f2.f1⟩ : S36)⟩ : S56) : List (S56))).bind fun G => (laws_markEdgeS.l0 k1 (G.set (s : Int).toNat (⟨(rd_T56 G s).f0, (⟨(rd_T56 G s).f1.f0, (rd_T56 G s).f1.f1⟩ : S36), (⟨(rd_T56 G s).f2.f0, wrap64 ((wrap64 ((wrap64 ((wrap64 (D + 1)) + 1)) + 1)) + 1)⟩ : S36)⟩ : S56)) (wrap64 ((wrap64 ((wrap64 ((wrap64 ((wrap64 (D + 1)) + 1)) + 1)) + 1)) + 1)) (wrap64 (s + 1)))))) = some (r1, r2) := by first | (rw [ao]; exact H) | exact H
     have be := am ao
     clear ao
     obtain ⟨M, ap⟩ : ∃ y_ : List (S56), y_ = (O.set (s : Int).toNat (⟨(rd_T56 O s).f0, (⟨wrap64 (D + 1), (rd_T56 O s).f1.f1⟩ : S36), (⟨(rd_T56 O s).f2.f0, (rd_T56 O s).f2.f1⟩ : S36)⟩ : S56)) := ⟨_, rfl⟩
     replace H : ((some (M.set (s : Int).toNat (⟨(rd_T56 M s).f0, (⟨(rd_T56 M s).f1.f0, wrap64 ((wrap64 (D + 1)) + 1)⟩ : S36), (⟨(rd_T56 M s).f2.f0, (rd_T56 M s).f2.f1⟩ : S36)⟩ : S56) : List (S56))).bind fun J => ((some (J.set (s : Int).toNat (⟨(rd_T56 J s).f0, (⟨(rd_T56 J s).f1.f0, (rd_T56 J s).f1.f1⟩ : S36), (⟨wrap64 ((wrap64 ((wrap64 (D + 1)) + 1)) + 1), (rd_T56 J s).f2.f1⟩ : S36)⟩ : S56) : List (S56))).bind fun G => (laws_markEdgeS.l0 k1 (G.set (s : Int).toNat (⟨(rd_T56 G s).f0, (⟨(rd_T56 G s).f1.f0, (rd_T56 G s).f1.f1⟩ : S36), (⟨(rd_T56 G s).f2.f0, wrap64 ((wrap64 ((wrap64 ((wrap64 (D + 1)) + 1)) + 1)) + 1)⟩ : S36)⟩ : S56)) (wrap64 ((wrap64 ((wrap64 ((wrap64 ((wrap64 (D + 1)) + 1)) + 1)) + 1)) + 1)) (wrap64 (s + 1))))) = some (r1, r2) := by first | (rw [ap]; exact H) | exact H
     have bg := am ap
     clear ap
     obtain ⟨J, aq⟩ : ∃ y_ : List (S56), y_ = (M.set (s : Int).toNat (⟨(rd_T56 M s).f0, (⟨(rd_T56 M s).f1.f0, wrap64 ((wrap64 (D + 1)) + 1)⟩ : S36), (⟨(rd_T56 M s).f2.f0, (rd_T56 M s).f2.f1⟩ : S36)⟩ : S56)) := ⟨_, rfl⟩
     replace H : ((some (J.set (s : Int).toNat (⟨(rd_T56 J s).f0, (⟨(rd_T56 J s).f1.f0, (rd_T56 J s).f1.f1⟩ : S36), (⟨wrap64 ((wrap64 ((wrap64 (D + 1)) + 1)) + 1), (rd_T56 J s).f2.f1⟩ : S36)⟩ : S56) : List (S56))).bind fun G => (laws_markEdgeS.l0 k1 (G.set (s : Int).toNat (⟨(rd_T56 G s).f0, (⟨(rd_T56 G s).f1.f0, (rd_T56 G s).f1.f1⟩ : S36), (⟨(rd_T56 G s).f2.f0, wrap64 ((wrap64 ((wrap64 ((wrap64 (D + 1)) + 1)) + 1)) + 1)⟩ : S36)⟩ : S56)) (wrap64 ((wrap64 ((wrap64 ((wrap64 ((wrap64 (D + 1)) + 1)) + 1)) + 1)) + 1)) (wrap64 (s + 1)))) = some (r1, r2) := by first | (rw [aq]; exact H) | exact H
     have bh := am aq
     clear aq
     obtain ⟨G, ar⟩ : ∃ y_ : List (S56), y_ = (J.set (s : Int).toNat (⟨(rd_T56 J s).f0, (⟨(rd_T56 J s).f1.f0, (rd_T56 J s).f1.f1⟩ : S36), (⟨wrap64 ((wrap64 ((wrap64 (D + 1)) + 1)) + 1), (rd_T56 J s).f2.f1⟩ : S36)⟩ : S56)) := ⟨_, rfl⟩
     replace H : (laws_markEdgeS.l0 k1 (G.set (s : Int).toNat (⟨(rd_T56 G s).f0, (⟨(rd_T56 G s).f1.f0, (rd_T56 G s).f1.f1⟩ : S36), (⟨(rd_T56 G s).f2.f0, wrap64 ((wrap64 ((wrap64 ((wrap64 (D + 1)) + 1)) + 1)) + 1)⟩ : S36)⟩ : S56)) (wrap64 ((wrap64 ((wrap64 ((wrap64 ((wrap64 (D + 1)) + 1)) + 1)) + 1)) + 1)) (wrap64 (s + 1))) = some (r1, r2) := by first | (rw [ar]; exact H) | exact H
     have bi := am ar
     clear ar
     obtain ⟨au, av⟩ : ∃ y_ : List (S56), y_ = (G.set (s : Int).toNat (⟨(rd_T56 G s).f0, (⟨(rd_T56 G s).f1.f0, (rd_T56 G s).f1.f1⟩ : S36), (⟨(rd_T56 G s).f2.f0, wrap64 ((wrap64 ((wrap64 ((wrap64 (D + 1)) + 1)) + 1)) + 1)⟩ : S36)⟩ : S56)) := ⟨_, rfl⟩
     replace H : (laws_markEdgeS.l0 k1 au (wrap64 ((wrap64 ((wrap64 ((wrap64 ((wrap64 (D + 1)) + 1)) + 1)) + 1)) + 1)) (wrap64 (s + 1))) = some (r1, r2) := by first | (rw [av]; exact H) | exact H
     have bj := am av
     clear av
     have H' := am H
     clear H
     obtain ⟨bJ, aa, bk⟩ := Kd.R_slice L.out
     subst bk
     have p5 : 0 ≤ (s : Int) := oda
     have q5 : (s : Int) < ((z.length : Int) : Int) := oda
     obtain ⟨y, bK, aI, aJ, bl, bL, aK⟩ := Kd.R_form L.out (by omega)
     (first | cases aI | (injection aI with ea_ en_ ec_; (first | subst ea_ | (injection ea_ with ea_; subst ea_)); subst ec_; clear en_))
     have an := am aJ
     have bM := am aK
     clear aJ bl aK
     have HMgo5 := am (show (P0_ y ∨ w.heap.size ≤ y) from (L.out.1 _ rfl))
     obtain ⟨bN, bm, aL, ab, ac⟩ := Kd.R_elem L.out z56 (s : Int) p5 q5
     obtain rfl := k56_openM aL
     have bO : wr.cell? ⟨y, (s : Int).toNat * 5, none⟩ = some (.int .i64 ((rd_T56 z s).f0)) := ab 0 _ rfl
     have bP : wr.cell? ⟨y, (s : Int).toNat * 5 + 1, none⟩ = some (.int .i64 ((rd_T56 z s).f1.f0)) := ab 1 _ rfl
     have bQ : wr.cell? ⟨y, (s : Int).toNat * 5 + 2, none⟩ = some (.int .i64 ((rd_T56 z s).f1.f1)) := ab 2 _ rfl
     have bR : wr.cell? ⟨y, (s : Int).toNat * 5 + 3, none⟩ = some (.int .i64 ((rd_T56 z s).f2.f0)) := ab 3 _ rfl
     have bS : wr.cell? ⟨y, (s : Int).toNat * 5 + 4, none⟩ = some (.int .i64 ((rd_T56 z s).f2.f1)) := ab 4 _ rfl
     have bT : wr.frozen? ⟨y, (s : Int).toNat * 5, none⟩ = false := ac 0
     have bU : wr.frozen? ⟨y, (s : Int).toNat * 5 + 1, none⟩ = false := ac 1
     have bV : wr.frozen? ⟨y, (s : Int).toNat * 5 + 2, none⟩ = false := ac 2
     have bW : wr.frozen? ⟨y, (s : Int).toNat * 5 + 3, none⟩ = false := ac 3
     have bX : wr.frozen? ⟨y, (s : Int).toNat * 5 + 4, none⟩ = false := ac 4
     clear bm ab ac aL
     replace p5 := eq_true p5
     replace q5 := eq_true q5
     have HX11 := am (show Kd.R k56 56 wr w0.heap.size (fun k_ => (P0_ k_ ∨ w.heap.size ≤ k_)) (.slice (some ⟨y, 0, none⟩) z.length aa) z from (rl L.out))
     obtain ⟨bY, aM, aN, aw, aO⟩ := Kd.R_elem HX11.out z56 (s : Int) (oda) (by have h_ : (s : Int) < ((z.length : Int) : Int) := oda; first | exact h_ | (have e_ := (Kd.R_reads' L.out).1; omega) | simpa using h_)
     obtain rfl := k56_openM aN
     have ax := Kd.R_seg HX11.out (s : Int) (oda) (by have h_ : (s : Int) < ((z.length : Int) : Int) := oda; first | exact h_ | (have e_ := (Kd.R_reads' L.out).1; omega) | simpa using h_) (seg := [.int .i64 D]) (j := 0) aM aw (show 1 ≤ 5 from by decide) (x' := (⟨D, (⟨(rd_T56 z s).f1.f0, (rd_T56 z s).f1.f1⟩ : S36), (⟨(rd_T56 z s).f2.f0, (rd_T56 z s).f2.f1⟩ : S36)⟩ : S56)) (k56_mkM _ _ _ (⟨D, (⟨(rd_T56 z s).f1.f0, (rd_T56 z s).f1.f1⟩ : S36), (⟨(rd_T56 z s).f2.f0, (rd_T56 z s).f2.f1⟩ : S36)⟩ : S56) ) (fun _ hk => hk)
     have bn := aw 0 _ rfl
     (try simp only [show (k56).sz = 5 from rfl, Nat.mul_one, Nat.add_zero] at bn)
     have bo := aO 0
     (try simp only [show (k56).sz = 5 from rfl, Nat.mul_one, Nat.add_zero] at bo)
     clear aM aw aO aN
     go_wp2_with (first | ((with_reducible refine gate_store (t := 3) (p := 16) rfl ?_); refine store_event (t := 3) (p := 16) (v := ?vo_w12) (w1 := (wr.setCell ⟨y, (s : Int).toNat * 5, none⟩ (.int .i64 D))) ?hg ?ho ?hn ?hr ?_; (case ho => rfl); (case hg => rfl); (case hn => rfl); (case hr => first | (go_simp; done) | (go_simp; rfl)); intro T hw; have hg : wr.grownBy T (some y) := (by rw [hw]; exact ax.2); have hp_ : Kd.R k56 56 T w0.heap.size (fun k_ => (P0_ k_ ∨ w.heap.size ≤ k_)) (.slice (some ⟨y, 0, none⟩) z.length aa) O := (by rw [hw, be.out]; exact ax.1); clear ax; replace HB := am ((by rw [hw]; exact below_set (HB.out) an.out : Below w0.heap.size w0 T)); replace HK := am (Kept.of_grown (S := (fun k_ => P0_ k_)) hg (ts HK.out) (fun k_ e_ => (L.out.1 k_ e_))); replace L := am hp_; clear hg hw hp_; have p6 : 0 ≤ (s : Int) := oda; have q6 : (s : Int) < ((z.length : Int) : Int) := oda; obtain ⟨bZ, br, aP, ad, ae⟩ := Kd.R_elem L.out z56 (s : Int) p6 q6; obtain rfl := k56_openM aP; have b0 : T.cell? ⟨y, (s : Int).toNat * 5, none⟩ = some (.int .i64 ((rd_T56 O s).f0)) := ad 0 _ rfl; have b1 : T.cell? ⟨y, (s : Int).toNat * 5 + 1, none⟩ = some (.int .i64 ((rd_T56 O s).f1.f0)) := ad 1 _ rfl; have b2 : T.cell? ⟨y, (s : Int).toNat * 5 + 2, none⟩ = some (.int .i64 ((rd_T56 O s).f1.f1)) := ad 2 _ rfl; have b3 : T.cell? ⟨y, (s : Int).toNat * 5 + 3, none⟩ = some (.int .i64 ((rd_T56 O s).f2.f0)) := ad 3 _ rfl; have b4 : T.cell? ⟨y, (s : Int).toNat * 5 + 4, none⟩ = some (.int .i64 ((rd_T56 O s).f2.f1)) := ad 4 _ rfl; have b5 : T.frozen? ⟨y, (s : Int).toNat * 5, none⟩ = false := ae 0; have b6 : T.frozen? ⟨y, (s : Int).toNat * 5 + 1, none⟩ = false := ae 1; have b7 : T.frozen? ⟨y, (s : Int).toNat * 5 + 2, none⟩ = false := ae 2; have b8 : T.frozen? ⟨y, (s : Int).toNat * 5 + 3, none⟩ = false := ae 3; have b9 : T.frozen? ⟨y, (s : Int).toNat * 5 + 4, none⟩ = false := ae 4; clear br ad ae aP; replace p6 := eq_true p6; replace q6 := eq_true q6; have HX13 := am (show Kd.R k56 56 T w0.heap.size (fun k_ => (P0_ k_ ∨ w.heap.size ≤ k_)) (.slice (some ⟨y, 0, none⟩) z.length aa) O from (rl L.out)); obtain ⟨ce, aQ, aR, ay, aS⟩ := Kd.R_elem HX13.out z56 (s : Int) (oda) (by have h_ : (s : Int) < ((z.length : Int) : Int) := oda; first | exact h_ | (have e_ := (Kd.R_reads' L.out).1; omega) | simpa using h_); obtain rfl := k56_openM aR; have az := Kd.R_seg HX13.out (s : Int) (oda) (by have h_ : (s : Int) < ((z.length : Int) : Int) := oda; first | exact h_ | (have e_ := (Kd.R_reads' L.out).1; omega) | simpa using h_) (seg := [.int .i64 (wrap64 (D + 1))]) (j := 1) aQ ay (show 2 ≤ 5 from by decide) (x' := (⟨(rd_T56 O s).f0, (⟨wrap64 (D + 1), (rd_T56 O s).f1.f1⟩ : S36), (⟨(rd_T56 O s).f2.f0, (rd_T56 O s).f2.f1⟩ : S36)⟩ : S56)) (k56_mkM _ _ _ (⟨(rd_T56 O s).f0, (⟨wrap64 (D + 1), (rd_T56 O s).f1.f1⟩ : S36), (⟨(rd_T56 O s).f2.f0, (rd_T56 O s).f2.f1⟩ : S36)⟩ : S56) ) (fun _ hk => hk); have bt := ay 1 _ rfl; (try simp only [show (k56).sz = 5 from rfl, Nat.mul_one, Nat.add_zero] at bt); have bu := aS 1; (try simp only [show (k56).sz = 5 from rfl, Nat.mul_one, Nat.add_zero] at bu); clear aQ ay aS aR) | ((with_reducible refine gate_store (t := 3) (p := 24) rfl ?_); refine store_event (t := 3) (p := 24) (v := ?vo_w14) (w1 := (T.setCell ⟨y, (s : Int).toNat * 5 + 1, none⟩ (.int .i64 (wrap64 (D + 1))))) ?hg ?ho ?hn ?hr ?_; (case ho => rfl); (case hg => rfl); (case hn => rfl); (case hr => first | (go_simp; done) | (go_simp; rfl)); intro X hw; have hg : T.grownBy X (some y) := (by rw [hw]; exact az.2); have hp_ : Kd.R k56 56 X w0.heap.size (fun k_ => (P0_ k_ ∨ w.heap.size ≤ k_)) (.slice (some ⟨y, 0, none⟩) z.length aa) M := (by rw [hw, bg.out]; exact az.1); clear az; replace HB := am ((by rw [hw]; exact below_set (HB.out) an.out : Below w0.heap.size w0 X)); replace HK := am (Kept.of_grown (S := (fun k_ => P0_ k_)) hg (ts HK.out) (fun k_ e_ => (L.out.1 k_ e_))); replace L := am hp_; clear hg hw hp_; have p7 : 0 ≤ (s : Int) := oda; have q7 : (s : Int) < ((z.length : Int) : Int) := oda; obtain ⟨cf, bv, aT, af, ag⟩ := Kd.R_elem L.out z56 (s : Int) p7 q7; obtain rfl := k56_openM aT; have cg : X.cell? ⟨y, (s : Int).toNat * 5, none⟩ = some (.int .i64 ((rd_T56 M s).f0)) := af 0 _ rfl; have ch : X.cell? ⟨y, (s : Int).toNat * 5 + 1, none⟩ = some (.int .i64 ((rd_T56 M s).f1.f0)) := af 1 _ rfl; have ci : X.cell? ⟨y, (s : Int).toNat * 5 + 2, none⟩ = some (.int .i64 ((rd_T56 M s).f1.f1)) := af 2 _ rfl; have cj : X.cell? ⟨y, (s : Int).toNat * 5 + 3, none⟩ = some (.int .i64 ((rd_T56 M s).f2.f0)) := af 3 _ rfl; have ck : X.cell? ⟨y, (s : Int).toNat * 5 + 4, none⟩ = some (.int .i64 ((rd_T56 M s).f2.f1)) := af 4 _ rfl; have cl : X.frozen? ⟨y, (s : Int).toNat * 5, none⟩ = false := ag 0; have cm : X.frozen? ⟨y, (s : Int).toNat * 5 + 1, none⟩ = false := ag 1; have cn : X.frozen? ⟨y, (s : Int).toNat * 5 + 2, none⟩ = false := ag 2; have co : X.frozen? ⟨y, (s : Int).toNat * 5 + 3, none⟩ = false := ag 3; have cp : X.frozen? ⟨y, (s : Int).toNat * 5 + 4, none⟩ = false := ag 4; clear bv af ag aT; replace p7 := eq_true p7; replace q7 := eq_true q7; have HX15 := am (show Kd.R k56 56 X w0.heap.size (fun k_ => (P0_ k_ ∨ w.heap.size ≤ k_)) (.slice (some ⟨y, 0, none⟩) z.length aa) M from (rl L.out)); obtain ⟨ct, aU, aV, aA, aW⟩ := Kd.R_elem HX15.out z56 (s : Int) (oda) (by have h_ : (s : Int) < ((z.length : Int) : Int) := oda; first | exact h_ | (have e_ := (Kd.R_reads' L.out).1; omega) | simpa using h_); obtain rfl := k56_openM aV; have aB := Kd.R_seg HX15.out (s : Int) (oda) (by have h_ : (s : Int) < ((z.length : Int) : Int) := oda; first | exact h_ | (have e_ := (Kd.R_reads' L.out).1; omega) | simpa using h_) (seg := [.int .i64 (wrap64 ((wrap64 (D + 1)) + 1))]) (j := 2) aU aA (show 3 ≤ 5 from by decide) (x' := (⟨(rd_T56 M s).f0, (⟨(rd_T56 M s).f1.f0, wrap64 ((wrap64 (D + 1)) + 1)⟩ : S36), (⟨(rd_T56 M s).f2.f0, (rd_T56 M s).f2.f1⟩ : S36)⟩ : S56)) (k56_mkM _ _ _ (⟨(rd_T56 M s).f0, (⟨(rd_T56 M s).f1.f0, wrap64 ((wrap64 (D + 1)) + 1)⟩ : S36), (⟨(rd_T56 M s).f2.f0, (rd_T56 M s).f2.f1⟩ : S36)⟩ : S56) ) (fun _ hk => hk); have bw := aA 2 _ rfl; (try simp only [show (k56).sz = 5 from rfl, Nat.mul_one, Nat.add_zero] at bw); have bz := aW 2; (try simp only [show (k56).sz = 5 from rfl, Nat.mul_one, Nat.add_zero] at bz); clear aU aA aW aV) | ((with_reducible refine gate_store (t := 3) (p := 32) rfl ?_); refine store_event (t := 3) (p := 32) (v := ?vo_w16) (w1 := (X.setCell ⟨y, (s : Int).toNat * 5 + 2, none⟩ (.int .i64 (wrap64 ((wrap64 (D + 1)) + 1))))) ?hg ?ho ?hn ?hr ?_; (case ho => rfl); (case hg => rfl); (case hn => rfl); (case hr => first | (go_simp; done) | (go_simp; rfl)); intro Y hw; have hg : X.grownBy Y (some y) := (by rw [hw]; exact aB.2); have hp_ : Kd.R k56 56 Y w0.heap.size (fun k_ => (P0_ k_ ∨ w.heap.size ≤ k_)) (.slice (some ⟨y, 0, none⟩) z.length aa) J := (by rw [hw, bh.out]; exact aB.1); clear aB; replace HB := am ((by rw [hw]; exact below_set (HB.out) an.out : Below w0.heap.size w0 Y)); replace HK := am (Kept.of_grown (S := (fun k_ => P0_ k_)) hg (ts HK.out) (fun k_ e_ => (L.out.1 k_ e_))); replace L := am hp_; clear hg hw hp_; have p8 : 0 ≤ (s : Int) := oda; have q8 : (s : Int) < ((z.length : Int) : Int) := oda; obtain ⟨cu, bA, aX, ah, ai⟩ := Kd.R_elem L.out z56 (s : Int) p8 q8; obtain rfl := k56_openM aX; have cv : Y.cell? ⟨y, (s : Int).toNat * 5, none⟩ = some (.int .i64 ((rd_T56 J s).f0)) := ah 0 _ rfl; have cy : Y.cell? ⟨y, (s : Int).toNat * 5 + 1, none⟩ = some (.int .i64 ((rd_T56 J s).f1.f0)) := ah 1 _ rfl; have cz : Y.cell? ⟨y, (s : Int).toNat * 5 + 2, none⟩ = some (.int .i64 ((rd_T56 J s).f1.f1)) := ah 2 _ rfl; have cA : Y.cell? ⟨y, (s : Int).toNat * 5 + 3, none⟩ = some (.int .i64 ((rd_T56 J s).f2.f0)) := ah 3 _ rfl; have cB : Y.cell? ⟨y, (s : Int).toNat * 5 + 4, none⟩ = some (.int .i64 ((rd_T56 J s).f2.f1)) := ah 4 _ rfl; have cC : Y.frozen? ⟨y, (s : Int).toNat * 5, none⟩ = false := ai 0; have cD : Y.frozen? ⟨y, (s : Int).toNat * 5 + 1, none⟩ = false := ai 1; have cE : Y.frozen? ⟨y, (s : Int).toNat * 5 + 2, none⟩ = false := ai 2; have cF : Y.frozen? ⟨y, (s : Int).toNat * 5 + 3, none⟩ = false := ai 3; have cG : Y.frozen? ⟨y, (s : Int).toNat * 5 + 4, none⟩ = false := ai 4; clear bA ah ai aX; replace p8 := eq_true p8; replace q8 := eq_true q8; have HX17 := am (show Kd.R k56 56 Y w0.heap.size (fun k_ => (P0_ k_ ∨ w.heap.size ≤ k_)) (.slice (some ⟨y, 0, none⟩) z.length aa) J from (rl L.out)); obtain ⟨cH, aY, aZ, aC, a4⟩ := Kd.R_elem HX17.out z56 (s : Int) (oda) (by have h_ : (s : Int) < ((z.length : Int) : Int) := oda; first | exact h_ | (have e_ := (Kd.R_reads' L.out).1; omega) | simpa using h_); obtain rfl := k56_openM aZ; have aD := Kd.R_seg HX17.out (s : Int) (oda) (by have h_ : (s : Int) < ((z.length : Int) : Int) := oda; first | exact h_ | (have e_ := (Kd.R_reads' L.out).1; omega) | simpa using h_) (seg := [.int .i64 (wrap64 ((wrap64 ((wrap64 (D + 1)) + 1)) + 1))]) (j := 3) aY aC (show 4 ≤ 5 from by decide) (x' := (⟨(rd_T56 J s).f0, (⟨(rd_T56 J s).f1.f0, (rd_T56 J s).f1.f1⟩ : S36), (⟨wrap64 ((wrap64 ((wrap64 (D + 1)) + 1)) + 1), (rd_T56 J s).f2.f1⟩ : S36)⟩ : S56)) (k56_mkM _ _ _ (⟨(rd_T56 J s).f0, (⟨(rd_T56 J s).f1.f0, (rd_T56 J s).f1.f1⟩ : S36), (⟨wrap64 ((wrap64 ((wrap64 (D + 1)) + 1)) + 1), (rd_T56 J s).f2.f1⟩ : S36)⟩ : S56) ) (fun _ hk => hk); have bB := aC 3 _ rfl; (try simp only [show (k56).sz = 5 from rfl, Nat.mul_one, Nat.add_zero] at bB); have bC := a4 3; (try simp only [show (k56).sz = 5 from rfl, Nat.mul_one, Nat.add_zero] at bC); clear aY aC a4 aZ) | ((with_reducible refine gate_store (t := 3) (p := 40) rfl ?_); refine store_event (t := 3) (p := 40) (v := ?vo_w18) (w1 := (Y.setCell ⟨y, (s : Int).toNat * 5 + 3, none⟩ (.int .i64 (wrap64 ((wrap64 ((wrap64 (D + 1)) + 1)) + 1))))) ?hg ?ho ?hn ?hr ?_; (case ho => rfl); (case hg => rfl); (case hn => rfl); (case hr => first | (go_simp; done) | (go_simp; rfl)); intro Z hw; have hg : Y.grownBy Z (some y) := (by rw [hw]; exact aD.2); have hp_ : Kd.R k56 56 Z w0.heap.size (fun k_ => (P0_ k_ ∨ w.heap.size ≤ k_)) (.slice (some ⟨y, 0, none⟩) z.length aa) G := (by rw [hw, bi.out]; exact aD.1); clear aD; replace HB := am ((by rw [hw]; exact below_set (HB.out) an.out : Below w0.heap.size w0 Z)); replace HK := am (Kept.of_grown (S := (fun k_ => P0_ k_)) hg (ts HK.out) (fun k_ e_ => (L.out.1 k_ e_))); replace L := am hp_; clear hg hw hp_; have p9 : 0 ≤ (s : Int) := oda; have q9 : (s : Int) < ((z.length : Int) : Int) := oda; obtain ⟨cI, bD, a5, aj, ak⟩ := Kd.R_elem L.out z56 (s : Int) p9 q9; obtain rfl := k56_openM a5; have cJ : Z.cell? ⟨y, (s : Int).toNat * 5, none⟩ = some (.int .i64 ((rd_T56 G s).f0)) := aj 0 _ rfl; have cK : Z.cell? ⟨y, (s : Int).toNat * 5 + 1, none⟩ = some (.int .i64 ((rd_T56 G s).f1.f0)) := aj 1 _ rfl; have cL : Z.cell? ⟨y, (s : Int).toNat * 5 + 2, none⟩ = some (.int .i64 ((rd_T56 G s).f1.f1)) := aj 2 _ rfl; have cM : Z.cell? ⟨y, (s : Int).toNat * 5 + 3, none⟩ = some (.int .i64 ((rd_T56 G s).f2.f0)) := aj 3 _ rfl; have cN : Z.cell? ⟨y, (s : Int).toNat * 5 + 4, none⟩ = some (.int .i64 ((rd_T56 G s).f2.f1)) := aj 4 _ rfl; have cO : Z.frozen? ⟨y, (s : Int).toNat * 5, none⟩ = false := ak 0; have cP : Z.frozen? ⟨y, (s : Int).toNat * 5 + 1, none⟩ = false := ak 1; have cQ : Z.frozen? ⟨y, (s : Int).toNat * 5 + 2, none⟩ = false := ak 2; have cR : Z.frozen? ⟨y, (s : Int).toNat * 5 + 3, none⟩ = false := ak 3; have cS : Z.frozen? ⟨y, (s : Int).toNat * 5 + 4, none⟩ = false := ak 4; clear bD aj ak a5; replace p9 := eq_true p9; replace q9 := eq_true q9; have HX19 := am (show Kd.R k56 56 Z w0.heap.size (fun k_ => (P0_ k_ ∨ w.heap.size ≤ k_)) (.slice (some ⟨y, 0, none⟩) z.length aa) G from (rl L.out)); obtain ⟨cT, a6, a7, aE, a8⟩ := Kd.R_elem HX19.out z56 (s : Int) (oda) (by have h_ : (s : Int) < ((z.length : Int) : Int) := oda; first | exact h_ | (have e_ := (Kd.R_reads' L.out).1; omega) | simpa using h_); obtain rfl := k56_openM a7; have aF := Kd.R_seg HX19.out (s : Int) (oda) (by have h_ : (s : Int) < ((z.length : Int) : Int) := oda; first | exact h_ | (have e_ := (Kd.R_reads' L.out).1; omega) | simpa using h_) (seg := [.int .i64 (wrap64 ((wrap64 ((wrap64 ((wrap64 (D + 1)) + 1)) + 1)) + 1))]) (j := 4) a6 aE (show 5 ≤ 5 from by decide) (x' := (⟨(rd_T56 G s).f0, (⟨(rd_T56 G s).f1.f0, (rd_T56 G s).f1.f1⟩ : S36), (⟨(rd_T56 G s).f2.f0, wrap64 ((wrap64 ((wrap64 ((wrap64 (D + 1)) + 1)) + 1)) + 1)⟩ : S36)⟩ : S56)) (k56_mkM _ _ _ (⟨(rd_T56 G s).f0, (⟨(rd_T56 G s).f1.f0, (rd_T56 G s).f1.f1⟩ : S36), (⟨(rd_T56 G s).f2.f0, wrap64 ((wrap64 ((wrap64 ((wrap64 (D + 1)) + 1)) + 1)) + 1)⟩ : S36)⟩ : S56) ) (fun _ hk => hk); have bE := aE 4 _ rfl; (try simp only [show (k56).sz = 5 from rfl, Nat.mul_one, Nat.add_zero] at bE); have bF := a8 4; (try simp only [show (k56).sz = 5 from rfl, Nat.mul_one, Nat.add_zero] at bF); clear a6 aE a8 a7) | ((with_reducible refine gate_store (t := 3) (p := 48) rfl ?_); refine store_event (t := 3) (p := 48) (v := ?vo_w20) (w1 := (Z.setCell ⟨y, (s : Int).toNat * 5 + 4, none⟩ (.int .i64 (wrap64 ((wrap64 ((wrap64 ((wrap64 (D + 1)) + 1)) + 1)) + 1))))) ?hg ?ho ?hn ?hr ?_; (case ho => rfl); (case hg => rfl); (case hn => rfl); (case hr => first | (go_simp; done) | (go_simp; rfl)); intro aG hw; have hg : Z.grownBy aG (some y) := (by rw [hw]; exact aF.2); have hp_ : Kd.R k56 56 aG w0.heap.size (fun k_ => (P0_ k_ ∨ w.heap.size ≤ k_)) (.slice (some ⟨y, 0, none⟩) z.length aa) au := (by rw [hw, bj.out]; exact aF.1); clear aF; replace HB := am ((by rw [hw]; exact below_set (HB.out) an.out : Below w0.heap.size w0 aG)); replace HK := am (Kept.of_grown (S := (fun k_ => P0_ k_)) hg (ts HK.out) (fun k_ e_ => (L.out.1 k_ e_))); replace L := am hp_; clear hg hw hp_))
     go_roundg k1
     case measure => have := aH.out; omega
     case rel => exact ⟨(au), (wrap64 ((wrap64 ((wrap64 ((wrap64 ((wrap64 (D + 1)) + 1)) + 1)) + 1)) + 1)), (wrap64 (s + 1)), eqs, eqs, H', ⟨by have := aH.out; omega⟩, ⟨rl L.out⟩, ⟨ts HK.out⟩, ⟨bs HB.out⟩⟩
    ·rw [if_neg c4] at H
     exact absurd H (by simp)
   ·rw [if_neg c3] at H
    have bc : decide (s < (z.length : Int)) = false := decide_eq_false c3
    clear c3
    simp only [Option.some.injEq, Prod.mk.injEq] at H
    obtain ⟨rfl, rfl⟩ := H
    obtain ⟨cU, cV, bG⟩ := Kd.R_slice L.out
    subst bG
    go_wp2
    go_ret
    exact ⟨eqr, by (with_reducible repeat (first | apply Kd.R_alloc | apply Kd.R_drewN | apply Kd.R_drew)); exact L.out, bs HB.out, ts HK.out⟩

/-! ### laws_markGraph: function 23 -/
def laws_markGraph.f (k : Nat) (z : List (S36)) (D : List (S56)) (G : Int) : Option (Int × (List (S36)) × (List (S56))) := (laws_markNodeS.f k z G).bind fun s => ((laws_markEdgeS.f k D s.1).bind fun y => (some (y.1, s.2, y.2)))
theorem laws_markGraph.calls (k : Nat) (s : Nat → Prop) (M : Value) (I : List (S36)) (y : Nat → Prop) (O : Value) (J : List (S56)) (T : Int) (r1 : Int) (r2 : List (S36)) (r3 : List (S56)) (w0 w : World) (hB : Below w0.heap.size w0 w) (ah : Kd.R k36 36 w w0.heap.size s M I) (ai : Kd.R k56 56 w w0.heap.size y O J) (h : laws_markGraph.f k I J T = some (r1, r2, r3)) :
  Calls Try.prog 23 #[.agg #[M, O], .int .i64 T] w fun e w' => e = .returned (.int .i64 r1) ∧ Kd.R k36 36 w' w0.heap.size (fun k_ => ((s k_ ∨ y k_) ∨ w.heap.size ≤ k_)) M r2 ∧ Kd.R k56 56 w' w0.heap.size (fun k_ => ((s k_ ∨ y k_) ∨ w.heap.size ≤ k_)) O r3 ∧ Below w0.heap.size w0 w' ∧ Kept w w' (fun k_ => s k_ ∨ y k_) := by
 have hu34 := Try.underlying34
 have z := am (show Kd.R k36 36 w w0.heap.size (fun k_ => ((s k_ ∨ y k_) ∨ w.heap.size ≤ k_)) M I from Kd.R_mono ah (fun k_ hk => (.inl (.inl hk))))
 have D := am (show Kd.R k56 56 w w0.heap.size (fun k_ => ((s k_ ∨ y k_) ∨ w.heap.size ≤ k_)) O J from Kd.R_mono ai (fun k_ hk => (.inl (.inr hk))))
 have HK := am (Kept.refl w (fun k_ => s k_ ∨ y k_))
 have aq := am hB.size
 have HB := am hB
 clear hB
 have H := h; unfold laws_markGraph.f at H
 clear h
 replace H := Option.bind_eq_some_iff.mp H
 obtain ⟨⟨ac, aj⟩, af, H⟩ := H
 try dsimp -simprocs only at H
 have A3 := am af
 clear af
 replace H := Option.bind_eq_some_iff.mp H
 obtain ⟨⟨ak, al⟩, ag, H⟩ := H
 try dsimp -simprocs only at H
 have A4 := am ag
 clear ag
 simp only [Option.some.injEq, Prod.mk.injEq] at H
 obtain ⟨rfl, rfl, rfl⟩ := H
 obtain ⟨X, Y, an⟩ := Kd.R_slice z.out
 subst an
 obtain ⟨Z, aa, ao⟩ := Kd.R_slice D.out
 subst ao
 go_enter Try.func23, Try.ntmps23
 go_wp2_with (first | ((with_reducible refine gd 2 rfl ?_); refine bx 2 (cs := #[.slice X I.length Y, .slice Z J.length aa]) (t := 34) ?_; intro ap hg w7 hbox hb; replace z := rb z hb; replace D := rb D hb; have G := am hbox; have ar := Ge.mk ((by rw [hg]; exact (by first | exact HK.out.1 | exact (show Kept w _ (fun k_ => s k_ ∨ y k_) from ts HK.out).1) : w.heap.size ≤ ap)); replace HK := kl HK hb; have au := gwb HB hg; replace HB := hs HB hb; clear hb hbox hg; obtain ⟨av, aw⟩ := bc2 (w := w7) G.out; have ax := blk_frozen G.out) | ((with_reducible refine gc 24 rfl ?_); refine gl 8 Try.func24 #[.slice X I.length Y, .int .i64 T] ?_; (with_reducible refine (laws_markNodeS.calls k (fun k_ => some k_ = (.slice X I.length Y : Value).ownBlock) (.slice X I.length Y) I T ac aj w0 _ ?ad ?ae A3.out).mono ?_); (case ad => exact bs HB.out); (case ae => exact Kd.R_tight rfl z.out); rintro e w9 ⟨rfl, L, hb, hkp⟩; refine ⟨_, rfl, ?_⟩; replace D := am (Kd.R_mono (ok' := fun k_ => ((s k_ ∨ y k_) ∨ w.heap.size ≤ k_)) (Kd.R_keptB ((Kd.R_apart' D.out (Kd.R_typed z.out) (by decide))) hkp (fun k_ hk_ hs_ => (hk_.2) hs_)) (fun k_ hk_ => hk_.1.1)); replace G := am (blk_kept (bf G.out) hkp (fun hs_ => (fun e_ => (Kd.R_ne z.out G.out (by decide)) e_) hs_)); replace HK := am (Kept.then_ (S := (fun k_ => s k_ ∨ y k_)) (ts HK.out) hkp (fun k_ hs_ => (fun e_ => (z.out.1 k_ e_.symm)) hs_)); replace z := am (Kd.R_reok rfl L (fun k_ e_ => z.out.1 k_ e_)); replace HB := am hb; (try clear hb hkp); (try clear L); obtain ⟨ay, az⟩ := bc2 (w := w9) G.out; have aA := blk_frozen G.out) | ((with_reducible refine gc 72 rfl ?_); refine gl 12 Try.func72 #[.slice Z J.length aa, .int .i64 ac] ?_; (with_reducible refine (laws_markEdgeS.calls k (fun k_ => some k_ = (.slice Z J.length aa : Value).ownBlock) (.slice Z J.length aa) J ac ak al w0 _ ?ad ?ae A4.out).mono ?_); (case ad => exact bs HB.out); (case ae => exact Kd.R_tight rfl D.out); rintro e aB ⟨rfl, L, hb, hkp⟩; refine ⟨_, rfl, ?_⟩; replace z := am (Kd.R_mono (ok' := fun k_ => ((s k_ ∨ y k_) ∨ w.heap.size ≤ k_)) (Kd.R_keptB ((Kd.R_apart' z.out (Kd.R_typed D.out) (by decide))) hkp (fun k_ hk_ hs_ => (hk_.2) hs_)) (fun k_ hk_ => hk_.1.1)); replace G := am (blk_kept (bf G.out) hkp (fun hs_ => (fun e_ => (Kd.R_ne D.out G.out (by decide)) e_) hs_)); replace HK := am (Kept.then_ (S := (fun k_ => s k_ ∨ y k_)) (ts HK.out) hkp (fun k_ hs_ => (fun e_ => (D.out.1 k_ e_.symm)) hs_)); replace D := am (Kd.R_reok rfl L (fun k_ e_ => D.out.1 k_ e_)); replace HB := am hb; (try clear hb hkp); (try clear L)))
 go_ret
 exact ⟨eqr, by (with_reducible repeat (first | apply Kd.R_alloc | apply Kd.R_drewN | apply Kd.R_drew)); exact z.out, by (with_reducible repeat (first | apply Kd.R_alloc | apply Kd.R_drewN | apply Kd.R_drew)); exact D.out, bs HB.out, ts HK.out⟩

/-! ### laws_heldNodeS: function 25 -/
def laws_heldNodeS.l0 : Nat → List (S36) → Int → Int → Option (Int)
 | 0, _, _, _ => none
 | k + 1, y, z, s => if s < (y.length : Int) then (if 0 ≤ s then (if ((rd_T36 y s).f0) = z then (if ((rd_T36 y s).f1) = (wrap64 (z + 1)) then (laws_heldNodeS.l0 k y (wrap64 ((wrap64 (z + 1)) + 1)) (wrap64 (s + 1))) else (some (-1))) else (some (-1))) else (none)) else (some z)
def laws_heldNodeS.f (k : Nat) (l0 : List (S36)) (s : Int) : Option (Int) := laws_heldNodeS.l0 k l0 s 0
theorem laws_heldNodeS.calls (k : Nat) (A0 : Option Addr) (c0 : Nat) (l0 : List (S36)) (Z : Int) (r : Int) (w : World) (ad : Kd.C k36 w A0 l0.length l0) (ae : l0.length ≤ c0) (h : laws_heldNodeS.f k l0 Z = some r) :
  Calls Try.prog 25 #[.slice A0 l0.length c0, .int .i64 Z] w fun e w' => e = .returned (.int .i64 r) ∧ Drawn0 w w' := by
 have O := am ad
 have aq := am ae
 clear ad ae
 have H := h; unfold laws_heldNodeS.f at H
 clear h
 have H' := am H
 clear H
 go_enter Try.func25, Try.ntmps25
 go_wp2
 go_loopg [1, 5] k (fun kq v1 v5 w' => ∃ (y : Int) (s : Int), v1 = .int .i64 y ∧ v5 = .int .i64 s ∧ Aside0 (laws_heldNodeS.l0 kq l0 y s = some r) ∧ Aside0 (kq ≤ k) ∧ Drawn0 w w')
 case atStart => exact ⟨(Z), (0), eqs, eqs, H', ⟨Nat.le_refl _⟩, drs⟩
 case round =>
  clear H'
  try clear c2
  try clear p2
  obtain ⟨y, s, rfl, rfl, HA, af, ⟨m1, rfl⟩⟩ := hrel
  cases gk with
  | zero => exact absurd HA.out (by simp [laws_heldNodeS.l0])
  | succ k1 =>
   have H := HA.out
   clear HA
   simp only [laws_heldNodeS.l0] at H
   by_cases M : s < (l0.length : Int)
   ·rw [if_pos M] at H
    have ai : decide (s < (l0.length : Int)) = true := decide_eq_true M
    clear M
    by_cases X : 0 ≤ s
    ·rw [if_pos X] at H
     have ar : decide (0 ≤ s) = true := decide_eq_true X
     clear X
     by_cases G : ((rd_T36 l0 s).f0) = y
     ·rw [if_pos G] at H
      have aj : (((rd_T36 l0 s).f0) == y) = true := beq_iff_eq.mpr G
      have ak : (((rd_T36 l0 s).f0) != y) = false := bne_eq_false_iff_eq.mpr G
      clear G
      by_cases I : ((rd_T36 l0 s).f1) = (wrap64 (y + 1))
      ·rw [if_pos I] at H
       have al : (((rd_T36 l0 s).f1) == (wrap64 (y + 1))) = true := beq_iff_eq.mpr I
       have an : (((rd_T36 l0 s).f1) != (wrap64 (y + 1))) = false := bne_eq_false_iff_eq.mpr I
       clear I
       have H' := am H
       clear H
       have z : 0 ≤ (s : Int) := oda
       have D : s < (l0.length : Int) := oda
       obtain ⟨Y, T, ag, ah⟩ := at_T36 O.out s z D
       cases T
       replace z := eq_true z
       replace D := eq_true D
       have J : 0 ≤ (s : Int) := oda
       have L : s < (l0.length : Int) := oda
       obtain ⟨ab, ac, ao, ap⟩ := at_T36 O.out s J L
       obtain rfl : Y = ab := (by injection ac)
       replace J := eq_true J
       replace L := eq_true L
       go_wp2
       go_roundg k1
       case measure => have := af.out; omega
       case rel => exact ⟨(wrap64 ((wrap64 (y + 1)) + 1)), (wrap64 (s + 1)), eqs, eqs, H', ⟨by have := af.out; omega⟩, drs⟩
      ·rw [if_neg I] at H
       have al : (((rd_T36 l0 s).f1) == (wrap64 (y + 1))) = false := beq_eq_false_iff_ne.mpr I
       have an : (((rd_T36 l0 s).f1) != (wrap64 (y + 1))) = true := bne_iff_ne.mpr I
       obtain rfl := Option.some.inj H
       have z : 0 ≤ (s : Int) := oda
       have D : s < (l0.length : Int) := oda
       obtain ⟨Y, T, ag, ah⟩ := at_T36 O.out s z D
       cases T
       replace z := eq_true z
       replace D := eq_true D
       have J : 0 ≤ (s : Int) := oda
       have L : s < (l0.length : Int) := oda
       obtain ⟨ab, ac, ao, ap⟩ := at_T36 O.out s J L
       obtain rfl : Y = ab := (by injection ac)
       replace J := eq_true J
       replace L := eq_true L
       go_wp2
       go_ret
       exact ⟨eqs, drs⟩
     ·rw [if_neg G] at H
      have aj : (((rd_T36 l0 s).f0) == y) = false := beq_eq_false_iff_ne.mpr G
      have ak : (((rd_T36 l0 s).f0) != y) = true := bne_iff_ne.mpr G
      obtain rfl := Option.some.inj H
      have z : 0 ≤ (s : Int) := oda
      have D : s < (l0.length : Int) := oda
      obtain ⟨Y, T, ag, ah⟩ := at_T36 O.out s z D
      cases T
      replace z := eq_true z
      replace D := eq_true D
      go_wp2
      go_ret
      exact ⟨eqs, drs⟩
    ·rw [if_neg X] at H
     exact absurd H (by simp)
   ·rw [if_neg M] at H
    have ai : decide (s < (l0.length : Int)) = false := decide_eq_false M
    clear M
    obtain rfl := Option.some.inj H
    go_wp2
    go_ret
    exact ⟨eqs, drs⟩

end Go.Proofs.Ytohmemckdogljaa.QFnExactGraphDo
