/- Contracts of the Go functions that this law reaches: each does what its plain Lean function says. No condition. -/
import Derived.Test.YtohmemckdogljaaQFnGraphBentx0
import Derived.Test.YtohmemckdogljaaQFnGraphBentx1
import Derived.Test.YtohmemckdogljaaQFnGraphBentx2
import Derived.Test.YtohmemckdogljaaQFnGraphBentx5
namespace Go.Proofs.Ytohmemckdogljaa.QFnGraphBent
open Go.RowKit Go.Proofs.YtohmemckdogljaaW.PrintWords Go.Proofs.YtohmemckdogljaaW.PrintLast Go.Proofs.YtohmemckdogljaaW.PrintMore Go.Proofs.Ytohmemckdogljaa.Bl
attribute [local go_sem] max2_int min2_int max_two min_two max_three min_three max_four min_four   -- for this text's walks alone
set_option linter.unusedVariables false
set_option linter.unusedSimpArgs false
set_option maxHeartbeats 8000000
set_option maxRecDepth 100000

attribute [local go_sem high] eqA36 eqA56
/-! ### spec_GraphSame: function 42 -/
mutual
def spec_GraphSame.j0 : Nat → Bool → List (S36) → List (S56) → List (S36) → List (S56) → Option (Bool)
 | 0, _, _, _, _, _ => none
 | k + 1, s, y, z, D, G => if s = true then (some false) else (spec_GraphSame.l0 k 0 y z D G)
def spec_GraphSame.l0 : Nat → Int → List (S36) → List (S56) → List (S36) → List (S56) → Option (Bool)
 | 0, _, _, _, _, _ => none
 | k + 1, s, y, D, z, G => if s < (y.length : Int) then (if 0 ≤ s then (if s < (z.length : Int) then (if (!(((rd_T36 y s).f0) == ((rd_T36 z s).f0)) || (!(((rd_T36 y s).f1) == ((rd_T36 z s).f1)))) = true then (some false) else (spec_GraphSame.l0 k (wrap64 (s + 1)) y D z G)) else (none)) else (none)) else (spec_GraphSame.l1 k 0 y D z G)
def spec_GraphSame.l1 : Nat → Int → List (S36) → List (S56) → List (S36) → List (S56) → Option (Bool)
 | 0, _, _, _, _, _ => none
 | k + 1, s, D, y, G, z => if s < (y.length : Int) then (if 0 ≤ s then (if s < (z.length : Int) then (if (!(((rd_T56 y s).f0) == ((rd_T56 z s).f0)) || ((!(((rd_T56 y s).f1.f0) == ((rd_T56 z s).f1.f0)) || (!(((rd_T56 y s).f1.f1) == ((rd_T56 z s).f1.f1)))) || ((!(((rd_T56 y s).f2.f0) == ((rd_T56 z s).f2.f0)) || (!(((rd_T56 y s).f2.f1) == ((rd_T56 z s).f2.f1))))))) = true then (some false) else (spec_GraphSame.l1 k (wrap64 (s + 1)) D y G z)) else (none)) else (none)) else (some true)
end
def spec_GraphSame.f (k : Nat) (s : List (S36)) (y : List (S56)) (z : List (S36)) (D : List (S56)) : Option (Bool) := if (s.length : Int) = (z.length : Int) then (spec_GraphSame.j0 k ((y.length : Int) != (D.length : Int)) s y z D) else (spec_GraphSame.j0 k true s y z D)
theorem spec_GraphSame.calls (k : Nat) (X : Option Addr) (Y : Nat) (I : List (S36)) (Z : Option Addr) (aa : Nat) (z : List (S56)) (ab : Option Addr) (ac : Nat) (J : List (S36)) (ad : Option Addr) (ae : Nat) (D : List (S56)) (r : Bool) (w : World) (bo : Kd.C k36 w X I.length I) (br : I.length ≤ Y) (bt : Kd.C k56 w Z z.length z) (bu : z.length ≤ aa) (bv : Kd.C k36 w ab J.length J) (bw : J.length ≤ ac) (bz : Kd.C k56 w ad D.length D) (bA : D.length ≤ ae) (h : spec_GraphSame.f k I z J D = some r) :
  Calls Try.prog 42 #[.agg #[.slice X I.length Y, .slice Z z.length aa], .agg #[.slice ab J.length ac, .slice ad D.length ae]] w fun e w' => e = .returned (.bool r) ∧ Below w.heap.size w w' := by
 have hu34 := Try.underlying34
 have hu36 := Try.underlying36
 have hu56 := Try.underlying56
 have bB := am bo
 have ce := am br
 clear bo br
 have bC := am bt
 have cf := am bu
 clear bt bu
 have bD := am bv
 have cg := am bw
 clear bv bw
 have bE := am bz
 have ch := am bA
 clear bz bA
 have HB := am (Below.refl w.heap.size w)
 have H := h; unfold spec_GraphSame.f at H
 clear h
 have aV := am H
 clear H
 go_enter Try.func42, Try.ntmps42
 go_upto_region 1 with (first | ((with_reducible refine gd 2 rfl ?_); refine bx 2 (cs := #[.slice X I.length Y, .slice Z z.length aa]) (t := 34) ?_; intro aA hg w4 hbox hb; have y := am hbox; have bF := gwb HB hg; replace HB := hs HB hb; clear hb hbox hg) | ((with_reducible refine gd 3 rfl ?_); refine bx 3 (cs := #[.slice ab J.length ac, .slice ad D.length ae]) (t := 34) ?_; intro aB hg w5 hbox hb; have L := am hbox; have bG := gwb HB hg; replace HB := hs HB hb; have O := nq y hg; have T := nq' y hg; replace y := bb y hb rfl; clear hb hbox hg))
 repeat (go_quiet (first | ((with_reducible refine gd 2 rfl ?_); refine bx 2 (cs := #[.slice X I.length Y, .slice Z z.length aa]) (t := 34) ?_; intro aA hg w4 hbox hb; have y := am hbox; have bF := gwb HB hg; replace HB := hs HB hb; clear hb hbox hg) | ((with_reducible refine gd 3 rfl ?_); refine bx 3 (cs := #[.slice ab J.length ac, .slice ad D.length ae]) (t := 34) ?_; intro aB hg w5 hbox hb; have L := am hbox; have bG := gwb HB hg; replace HB := hs HB hb; have O := nq y hg; have T := nq' y hg; replace y := bb y hb rfl; clear hb hbox hg)); go_upto_region 1 with (first | ((with_reducible refine gd 2 rfl ?_); refine bx 2 (cs := #[.slice X I.length Y, .slice Z z.length aa]) (t := 34) ?_; intro aA hg w4 hbox hb; have y := am hbox; have bF := gwb HB hg; replace HB := hs HB hb; clear hb hbox hg) | ((with_reducible refine gd 3 rfl ?_); refine bx 3 (cs := #[.slice ab J.length ac, .slice ad D.length ae]) (t := 34) ?_; intro aB hg w5 hbox hb; have L := am hbox; have bG := gwb HB hg; replace HB := hs HB hb; have O := nq y hg; have T := nq' y hg; replace y := bb y hb rfl; clear hb hbox hg)))
 (try simp only [Act.put, List.setIfInBounds_toArray, List.set_cons_zero, List.set_cons_succ])
 go_cut [22] (fun bL wc => ∃ (kq : Nat) (aO : Bool), bL = .bool aO ∧ Aside0 (spec_GraphSame.j0 kq aO I z J D = some r) ∧ Aside0 (kq ≤ k) ∧ Aside0 (wc.heap[aA]? = some (.cells #[(.slice X I.length Y), (.slice Z z.length aa)] 34 (0, 0))) ∧ Aside0 (wc.heap[aB]? = some (.cells #[(.slice ab J.length ac), (.slice ad D.length ae)] 34 (0, 0))) ∧ Aside0 (Below w.heap.size w wc))
 case first =>
  have H := aV.out
  clear aV
  by_cases M : (I.length : Int) = (J.length : Int)
  ·rw [if_pos M] at H
   have af : ((I.length : Int) == (J.length : Int)) = true := beq_iff_eq.mpr M
   have aP : ((I.length : Int) != (J.length : Int)) = false := bne_eq_false_iff_eq.mpr M
   have aQ : (I.length == J.length) = true := by first | simpa using M | (simp at M ⊢; omega)
   clear M
   (first | rw [af] | (simp only [i64_w, i32_w]; rw [af]) | skip)
   have H' := am H
   clear H
   have ci := O.out
   have cj := T.out
   obtain ⟨aW, aX⟩ := bc2 (w := w5) y.out
   have aY := blk_frozen y.out
   obtain ⟨aZ, a8⟩ := bc2 (w := w5) L.out
   have a9 := blk_frozen L.out
   go_wp2
   repeat (go_quiet (fail); try go_wp2)
   go_meet
   case rel => exact ⟨_, (((z.length : Int) != (D.length : Int))), eqs, H', ⟨by first | omega | exact Nat.le_refl _⟩, ⟨bf y.out⟩, ⟨bf L.out⟩, ⟨bs HB.out⟩⟩
  ·rw [if_neg M] at H
   have af : ((I.length : Int) == (J.length : Int)) = false := beq_eq_false_iff_ne.mpr M
   have aP : ((I.length : Int) != (J.length : Int)) = true := bne_iff_ne.mpr M
   have aQ : (I.length == J.length) = false := by first | simpa using M | (simp at M ⊢; omega)
   (first | rw [af] | (simp only [i64_w, i32_w]; rw [af]) | skip)
   have H' := am H
   clear H
   have ck := O.out
   have cl := T.out
   obtain ⟨ba, bc⟩ := bc2 (w := w5) y.out
   have be := blk_frozen y.out
   obtain ⟨bg, bh⟩ := bc2 (w := w5) L.out
   have bi := blk_frozen L.out
   go_wp2
   repeat (go_quiet (fail); try go_wp2)
   go_meet
   case rel => exact ⟨_, (true), eqs, H', ⟨by first | omega | exact Nat.le_refl _⟩, ⟨bf y.out⟩, ⟨bf L.out⟩, ⟨bs HB.out⟩⟩
 case rest =>
  clear aV
  try clear c1
  try clear p2
  try clear c4
  try clear M
  try clear af
  try clear aP
  try clear aQ
  try clear c7
  try clear bH
  try clear ba bc
  try clear bg bh
  try clear aW aX
  try clear aZ a8
  try clear be
  try clear bi
  try clear aY
  try clear a9
  obtain ⟨kq, aO, rfl, HA, aR, y, L, HB⟩ := hcut
  cases kq with
  | zero => exact absurd HA.out (by simp [spec_GraphSame.j0])
  | succ bj =>
   have H := HA.out
   clear HA
   simp only [spec_GraphSame.j0] at H
   by_cases ar : aO = true
   ·subst ar
    replace H : (some false) = some r := by rw [if_pos rfl] at H; exact H
    obtain rfl := Option.some.inj H
    go_wp2
    repeat (go_quiet (fail); try go_wp2)
    go_ret
    exact ⟨eqr, bs HB.out⟩
   ·replace ar := Bool.eq_false_iff.mpr ar
    subst ar
    have H1 : (spec_GraphSame.l0 bj 0 I z J D) = some r := by rw [if_neg (show ¬ (false = true) by decide)] at H; exact H
    clear H
    have H := H1
    clear H1
    have H' := am H
    clear H
    go_wp2
    repeat (go_quiet (fail); try go_wp2)
    go_loopg [5] bj (fun kq v5 w' => ∃ (G : Int), v5 = .int .i64 G ∧ Aside0 (spec_GraphSame.l0 kq G I z J D = some r) ∧ Aside0 (kq ≤ bj) ∧ Aside0 (w'.heap[aA]? = some (.cells #[(.slice X I.length Y), (.slice Z z.length aa)] 34 (0, 0))) ∧ Aside0 (w'.heap[aB]? = some (.cells #[(.slice ab J.length ac), (.slice ad D.length ae)] 34 (0, 0))) ∧ Aside0 (Below w.heap.size w w'))
    case atStart => exact ⟨(0), eqs, H', ⟨Nat.le_refl _⟩, ⟨bf y.out⟩, ⟨bf L.out⟩, ⟨bs HB.out⟩⟩
    case round =>
     clear H'
     try clear c1
     try clear p2
     try clear c4
     try clear M
     try clear af
     try clear aP
     try clear aQ
     try clear c7
     try clear bH
     try clear ar
     try clear ba bc
     try clear bg bh
     try clear aW aX
     try clear aZ a8
     try clear be
     try clear bi
     try clear aY
     try clear a9
     try clear p2
     obtain ⟨G, rfl, HA, aS, y, L, HB⟩ := hrel
     cases gk with
     | zero => exact absurd HA.out (by simp [spec_GraphSame.l0])
     | succ k2 =>
      have H := HA.out
      clear HA
      simp only [spec_GraphSame.l0] at H
      by_cases ak : G < (I.length : Int)
      ·rw [if_pos ak] at H
       have bI : decide (G < (I.length : Int)) = true := decide_eq_true ak
       clear ak
       by_cases aC : 0 ≤ G
       ·rw [if_pos aC] at H
        have bN : decide (0 ≤ G) = true := decide_eq_true aC
        clear aC
        by_cases aD : G < (J.length : Int)
        ·rw [if_pos aD] at H
         have bO : decide (G < (J.length : Int)) = true := decide_eq_true aD
         clear aD
         by_cases al : (!(((rd_T36 I G).f0) == ((rd_T36 J G).f0)) || (!(((rd_T36 I G).f1) == ((rd_T36 J G).f1)))) = true
         ·rw [if_pos al] at H
          have bJ : (!(((rd_T36 I G).f0) == ((rd_T36 J G).f0)) || (!(((rd_T36 I G).f1) == ((rd_T36 J G).f1)))) = true := al
          clear al
          obtain rfl := Option.some.inj H
          have cm := O.out
          have cn := T.out
          obtain ⟨bP, bQ⟩ := bc2 (w := wr) y.out
          have bR := blk_frozen y.out
          have ag : 0 ≤ (G : Int) := oda
          have ah : G < (I.length : Int) := oda
          obtain ⟨bS, bk, au, av⟩ := at_T36 bB.out G ag ah
          cases bk
          replace au := cb HB au
          replace av := cb HB av
          replace ag := eq_true ag
          replace ah := eq_true ah
          obtain ⟨bT, bU⟩ := bc2 (w := wr) L.out
          have bV := blk_frozen L.out
          have ai : 0 ≤ (G : Int) := oda
          have aj : G < (J.length : Int) := oda
          obtain ⟨bW, bl, aw, ax⟩ := at_T36 bD.out G ai aj
          cases bl
          replace aw := cb HB aw
          replace ax := cb HB ax
          replace ai := eq_true ai
          replace aj := eq_true aj
          go_wp2
          repeat (go_quiet (fail); try go_wp2)
          go_ret
          exact ⟨eqr, bs HB.out⟩
         ·rw [if_neg al] at H
          have bJ : (!(((rd_T36 I G).f0) == ((rd_T36 J G).f0)) || (!(((rd_T36 I G).f1) == ((rd_T36 J G).f1)))) = false := by simpa using al
          clear al
          have H' := am H
          clear H
          have co := O.out
          have cp := T.out
          obtain ⟨bX, bY⟩ := bc2 (w := wr) y.out
          have bZ := blk_frozen y.out
          have ag : 0 ≤ (G : Int) := oda
          have ah : G < (I.length : Int) := oda
          obtain ⟨bS, bk, au, av⟩ := at_T36 bB.out G ag ah
          cases bk
          replace au := cb HB au
          replace av := cb HB av
          replace ag := eq_true ag
          replace ah := eq_true ah
          obtain ⟨b0, b1⟩ := bc2 (w := wr) L.out
          have b2 := blk_frozen L.out
          have ai : 0 ≤ (G : Int) := oda
          have aj : G < (J.length : Int) := oda
          obtain ⟨bW, bl, aw, ax⟩ := at_T36 bD.out G ai aj
          cases bl
          replace aw := cb HB aw
          replace ax := cb HB ax
          replace ai := eq_true ai
          replace aj := eq_true aj
          go_wp2
          repeat (go_quiet (fail); try go_wp2)
          go_roundg k2
          case measure => have := aR.out; have := aS.out; omega
          case rel => exact ⟨(wrap64 (G + 1)), eqs, H', ⟨by have := aR.out; have := aS.out; omega⟩, ⟨bf y.out⟩, ⟨bf L.out⟩, ⟨bs HB.out⟩⟩
        ·rw [if_neg aD] at H
         exact absurd H (by simp)
       ·rw [if_neg aC] at H
        exact absurd H (by simp)
      ·rw [if_neg ak] at H
       have bI : decide (G < (I.length : Int)) = false := decide_eq_false ak
       clear ak
       have H' := am H
       clear H
       have ct := O.out
       have cu := T.out
       obtain ⟨b3, b4⟩ := bc2 (w := wr) y.out
       have b5 := blk_frozen y.out
       go_wp2
       repeat (go_quiet (fail); try go_wp2)
       go_loopg [6] k2 (fun kq v6 w' => ∃ (s : Int), v6 = .int .i64 s ∧ Aside0 (spec_GraphSame.l1 kq s I z J D = some r) ∧ Aside0 (kq ≤ k2) ∧ Aside0 (w'.heap[aA]? = some (.cells #[(.slice X I.length Y), (.slice Z z.length aa)] 34 (0, 0))) ∧ Aside0 (w'.heap[aB]? = some (.cells #[(.slice ab J.length ac), (.slice ad D.length ae)] 34 (0, 0))) ∧ Aside0 (Below w.heap.size w w'))
       case atStart => exact ⟨(0), eqs, H', ⟨Nat.le_refl _⟩, ⟨bf y.out⟩, ⟨bf L.out⟩, ⟨bs HB.out⟩⟩
       case round =>
        clear H'
        try clear c1
        try clear c2
        try clear p2
        try clear c4
        try clear M
        try clear af
        try clear aP
        try clear aQ
        try clear p6
        try clear q6
        try clear cv
        try clear c7
        try clear bH
        try clear ar
        try clear ak
        try clear bI
        try clear aC
        try clear bN
        try clear aD
        try clear bO
        try clear al
        try clear bJ
        try clear cy
        try clear cz
        try clear cA
        try clear ba bc
        try clear bg bh
        try clear bP bQ
        try clear bT bU
        try clear bX bY
        try clear b0 b1
        try clear b3 b4
        try clear aW aX
        try clear aZ a8
        try clear be
        try clear bi
        try clear bR
        try clear bV
        try clear bZ
        try clear b2
        try clear b5
        try clear aY
        try clear a9
        try clear au
        try clear av
        try clear aw
        try clear ax
        try clear p2
        try clear ag
        try clear ai
        try clear ah
        try clear aj
        obtain ⟨s, rfl, HA, bK, y, L, HB⟩ := hrel
        cases gk with
        | zero => exact absurd HA.out (by simp [spec_GraphSame.l1])
        | succ k3 =>
         have H := HA.out
         clear HA
         simp only [spec_GraphSame.l1] at H
         by_cases ay : s < (z.length : Int)
         ·rw [if_pos ay] at H
          have b6 : decide (s < (z.length : Int)) = true := decide_eq_true ay
          clear ay
          by_cases aT : 0 ≤ s
          ·rw [if_pos aT] at H
           have cB : decide (0 ≤ s) = true := decide_eq_true aT
           clear aT
           by_cases aU : s < (D.length : Int)
           ·rw [if_pos aU] at H
            have cC : decide (s < (D.length : Int)) = true := decide_eq_true aU
            clear aU
            by_cases az : (!(((rd_T56 z s).f0) == ((rd_T56 D s).f0)) || ((!(((rd_T56 z s).f1.f0) == ((rd_T56 D s).f1.f0)) || (!(((rd_T56 z s).f1.f1) == ((rd_T56 D s).f1.f1)))) || ((!(((rd_T56 z s).f2.f0) == ((rd_T56 D s).f2.f0)) || (!(((rd_T56 z s).f2.f1) == ((rd_T56 D s).f2.f1))))))) = true
            ·rw [if_pos az] at H
             have b7 : (!(((rd_T56 z s).f0) == ((rd_T56 D s).f0)) || ((!(((rd_T56 z s).f1.f0) == ((rd_T56 D s).f1.f0)) || (!(((rd_T56 z s).f1.f1) == ((rd_T56 D s).f1.f1)))) || ((!(((rd_T56 z s).f2.f0) == ((rd_T56 D s).f2.f0)) || (!(((rd_T56 z s).f2.f1) == ((rd_T56 D s).f2.f1))))))) = true := az
             clear az
             obtain rfl := Option.some.inj H
             have cD := O.out
             have cE := T.out
             obtain ⟨cF, cG⟩ := bc2 (w := wr) y.out
             have cH := blk_frozen y.out
             have an : 0 ≤ (s : Int) := oda
             have ao : s < (z.length : Int) := oda
             obtain ⟨b8, bm, aE, aF, aG, aH, aI⟩ := at_T56 bC.out s an ao
             cases bm
             replace aE := cb HB aE
             replace aF := cb HB aF
             replace aG := cb HB aG
             replace aH := cb HB aH
             replace aI := cb HB aI
             replace an := eq_true an
             replace ao := eq_true ao
             obtain ⟨cI, cJ⟩ := bc2 (w := wr) L.out
             have cK := blk_frozen L.out
             have ap : 0 ≤ (s : Int) := oda
             have aq : s < (D.length : Int) := oda
             obtain ⟨b9, bn, aJ, aK, aL, aM, aN⟩ := at_T56 bE.out s ap aq
             cases bn
             replace aJ := cb HB aJ
             replace aK := cb HB aK
             replace aL := cb HB aL
             replace aM := cb HB aM
             replace aN := cb HB aN
             replace ap := eq_true ap
             replace aq := eq_true aq
             go_wp2
             repeat (go_quiet (fail); try go_wp2)
             go_ret
             exact ⟨eqr, bs HB.out⟩
            ·rw [if_neg az] at H
             have b7 : (!(((rd_T56 z s).f0) == ((rd_T56 D s).f0)) || ((!(((rd_T56 z s).f1.f0) == ((rd_T56 D s).f1.f0)) || (!(((rd_T56 z s).f1.f1) == ((rd_T56 D s).f1.f1)))) || ((!(((rd_T56 z s).f2.f0) == ((rd_T56 D s).f2.f0)) || (!(((rd_T56 z s).f2.f1) == ((rd_T56 D s).f2.f1))))))) = false := by simpa using az
             clear az
             have H' := am H
             clear H
             have cL := O.out
             have cM := T.out
             obtain ⟨cN, cO⟩ := bc2 (w := wr) y.out
             have cP := blk_frozen y.out
             have an : 0 ≤ (s : Int) := oda
             have ao : s < (z.length : Int) := oda
             obtain ⟨b8, bm, aE, aF, aG, aH, aI⟩ := at_T56 bC.out s an ao
             cases bm
             replace aE := cb HB aE
             replace aF := cb HB aF
             replace aG := cb HB aG
             replace aH := cb HB aH
             replace aI := cb HB aI
             replace an := eq_true an
             replace ao := eq_true ao
             obtain ⟨cQ, cR⟩ := bc2 (w := wr) L.out
             have cS := blk_frozen L.out
             have ap : 0 ≤ (s : Int) := oda
             have aq : s < (D.length : Int) := oda
             obtain ⟨b9, bn, aJ, aK, aL, aM, aN⟩ := at_T56 bE.out s ap aq
             cases bn
             replace aJ := cb HB aJ
             replace aK := cb HB aK
             replace aL := cb HB aL
             replace aM := cb HB aM
             replace aN := cb HB aN
             replace ap := eq_true ap
             replace aq := eq_true aq
             go_wp2
             repeat (go_quiet (fail); try go_wp2)
             go_roundg k3
             case measure => have := aR.out; have := aS.out; have := bK.out; omega
             case rel => exact ⟨(wrap64 (s + 1)), eqs, H', ⟨by have := aR.out; have := aS.out; have := bK.out; omega⟩, ⟨bf y.out⟩, ⟨bf L.out⟩, ⟨bs HB.out⟩⟩
           ·rw [if_neg aU] at H
            exact absurd H (by simp)
          ·rw [if_neg aT] at H
           exact absurd H (by simp)
         ·rw [if_neg ay] at H
          have b6 : decide (s < (z.length : Int)) = false := decide_eq_false ay
          clear ay
          obtain rfl := Option.some.inj H
          have cT := O.out
          have cU := T.out
          obtain ⟨cV, cW⟩ := bc2 (w := wr) y.out
          have cX := blk_frozen y.out
          go_wp2
          repeat (go_quiet (fail); try go_wp2)
          go_ret
          exact ⟨eqr, bs HB.out⟩

/-! ### impl_OpLabel: function 43 -/
mutual
def impl_OpLabel.j0 : Nat → Int → Bool → Int → Int → Int → Int → Int → Int → Int → Int → Option (Int)
 | 0, _, _, _, _, _, _, _, _, _, _ => none
 | k + 1, y, O, M, s, z, D, G, I, J, L => if O = true then ((impl_NodeOk.f s z).bind fun T => (if T = true then (if (D == 0 && ((G == 0 && (I == 0)) && ((J == 0 && (L == 0))))) = true then (some s) else (some (-1))) else (some (-1)))) else (if y = 2 then (impl_OpLabel.j1 k (y == 2) M s z D G I J L) else (impl_OpLabel.j1 k (y == 3) M s z D G I J L))
def impl_OpLabel.j1 : Nat → Bool → Int → Int → Int → Int → Int → Int → Int → Int → Option (Int)
 | 0, _, _, _, _, _, _, _, _, _ => none
 | k + 1, y, O, z, D, s, G, I, J, L => if y = true then ((impl_EdgeOk.f s G I J L).bind fun M => (if M = true then (if (z == 0 && (D == 0)) = true then (some s) else (some (-1))) else (some (-1)))) else (some (-1))
end
def impl_OpLabel.f (k : Nat) (s : Int) (y : Int) (z : Int) (D : Int) (G : Int) (I : Int) (J : Int) (L : Int) : Option (Int) := if s = 1 then (impl_OpLabel.j0 k s (s == 1) s y z D G I J L) else (impl_OpLabel.j0 k s (s == 4) s y z D G I J L)
theorem impl_OpLabel.calls (k : Nat) (G : Int) (z : Int) (I : Int) (D : Int) (J : Int) (L : Int) (M : Int) (O : Int) (r : Int) (w : World) (h : impl_OpLabel.f k G z I D J L M O = some r) :
  Calls Try.prog 43 #[.agg #[.int .i64 G, .int .i64 z, .int .i64 I, .int .i64 D, .int .i64 J, .int .i64 L, .int .i64 M, .int .i64 O]] w fun e w' => e = .returned (.int .i64 r) ∧ Below w.heap.size w w' := by
 have hu58 := Try.underlying58
 have hu36 := Try.underlying36
 have hu56 := Try.underlying56
 have HB := am (Below.refl w.heap.size w)
 have H := h; unfold impl_OpLabel.f at H
 clear h
 have ag := am H
 clear H
 go_enter Try.func43, Try.ntmps43
 go_upto_if 5 with (first | ((with_reducible refine gd 1 rfl ?_); refine bx 1 (cs := #[.int .i64 G, .int .i64 z, .int .i64 I, .int .i64 D, .int .i64 J, .int .i64 L, .int .i64 M, .int .i64 O]) (t := 58) ?_; intro ao hg w3 hbox hb; have y := am hbox; have bO := gwb HB hg; replace HB := hs HB hb; clear hb hbox hg; obtain ⟨ap, aq, ar, au, av, aw, ax, ay⟩ := bc8 (w := w3) y.out; have az := blk_frozen y.out))
 (try simp only [Act.put, List.setIfInBounds_toArray, List.set_cons_zero, List.set_cons_succ])
 go_cut [5] (fun v5 wc => ∃ (kq : Nat) (ac : Bool), v5 = .bool ac ∧ Aside0 (impl_OpLabel.j0 kq G ac G z I D J L M O = some r) ∧ Aside0 (kq ≤ k) ∧ Aside0 (wc.heap[ao]? = some (.cells #[.int .i64 G, .int .i64 z, .int .i64 I, .int .i64 D, .int .i64 J, .int .i64 L, .int .i64 M, .int .i64 O] 58 (0, 0))) ∧ Aside0 (Below w.heap.size w wc))
 case first =>
  have H := ag.out
  clear ag
  by_cases Y : G = 1
  ·rw [if_pos Y] at H
   have aa : (G == 1) = true := beq_iff_eq.mpr Y
   have ah : (G != 1) = false := bne_eq_false_iff_eq.mpr Y
   clear Y
   (first | rw [aa] | (simp only [i64_w, i32_w]; rw [aa]) | skip)
   have H' := am H
   clear H
   go_wp2
   go_meet
   case rel => exact ⟨_, ((G == 1)), eqs, H', ⟨by first | omega | exact Nat.le_refl _⟩, ⟨bf y.out⟩, ⟨bs HB.out⟩⟩
  ·rw [if_neg Y] at H
   have aa : (G == 1) = false := beq_eq_false_iff_ne.mpr Y
   have ah : (G != 1) = true := bne_iff_ne.mpr Y
   (first | rw [aa] | (simp only [i64_w, i32_w]; rw [aa]) | skip)
   have H' := am H
   clear H
   go_wp2
   go_meet
   case rel => exact ⟨_, ((G == 4)), eqs, H', ⟨by first | omega | exact Nat.le_refl _⟩, ⟨bf y.out⟩, ⟨bs HB.out⟩⟩
 case rest =>
  clear ag
  try clear p2
  try clear c4
  try clear Y
  try clear aa
  try clear ah
  try clear ap aq ar au av aw ax ay
  try clear az
  obtain ⟨kq, ac, rfl, HA, aA, y, HB⟩ := hcut
  cases kq with
  | zero => exact absurd HA.out (by simp [impl_OpLabel.j0])
  | succ ai =>
   have H := HA.out
   clear HA
   simp only [impl_OpLabel.j0] at H
   by_cases c6 : ac = true
   ·subst c6
    replace H : ((impl_NodeOk.f z I).bind fun aj => (if aj = true then (if (D == 0 && ((J == 0 && (L == 0)) && ((M == 0 && (O == 0))))) = true then (some z) else (some (-1))) else (some (-1)))) = some r := by rw [if_pos rfl] at H; exact H
    replace H := Option.bind_eq_some_iff.mp H
    obtain ⟨aj, aB, H⟩ := H
    try dsimp -simprocs only at H
    have A7 := am aB
    clear aB
    by_cases c8 : aj = true
    ·subst c8
     replace H : (if (D == 0 && ((J == 0 && (L == 0)) && ((M == 0 && (O == 0))))) = true then (some z) else (some (-1))) = some r := by rw [if_pos rfl] at H; exact H
     by_cases T : (D == 0 && ((J == 0 && (L == 0)) && ((M == 0 && (O == 0))))) = true
     ·rw [if_pos T] at H
      have aC : (D == 0 && ((J == 0 && (L == 0)) && ((M == 0 && (O == 0))))) = true := T
      (try (have aD : decide (D = 0 && ((J == 0 && (L == 0)) && ((M == 0 && (O == 0))))) = true := by simpa using T))
      (try (have aE : (D == 0 && ((J == 0 && (L == 0)) && ((M == 0 && (O == 0))))) = true := by simpa using T))
      clear T
      obtain rfl := Option.some.inj H
      obtain ⟨aH, aI, aJ, aK, aL, aM, aN, aO⟩ := bc8 (w := wc) y.out
      have aP := blk_frozen y.out
      go_wp2_with (first | ((with_reducible refine gc 92 rfl ?_); refine gl 10 Try.func92 #[.agg #[.int .i64 z, .int .i64 I]] ?_; (with_reducible refine (impl_NodeOk.calls z I true _ A7.out).mono ?_); rintro e aQ ⟨rfl, hb⟩; refine ⟨_, rfl, ?_⟩; replace y := bb y hb rfl; replace HB := hs HB hb; (try clear hb); obtain ⟨aR, aS, aT, aU, aV, aW, aX, aY⟩ := bc8 (w := aQ) y.out; have aZ := blk_frozen y.out))
      go_ret
      exact ⟨eqr, bs HB.out⟩
     ·rw [if_neg T] at H
      have aC : (D == 0 && ((J == 0 && (L == 0)) && ((M == 0 && (O == 0))))) = false := by simpa using T
      (try (have aD : decide (D = 0 && ((J == 0 && (L == 0)) && ((M == 0 && (O == 0))))) = false := by simpa using T))
      (try (have aE : (D == 0 && ((J == 0 && (L == 0)) && ((M == 0 && (O == 0))))) = false := by simpa using T))
      (try (have bP : ¬ (D = 0 && ((J == 0 && (L == 0)) && ((M == 0 && (O == 0))))) := by simpa using T))
      clear T
      obtain rfl := Option.some.inj H
      obtain ⟨a8, a9, ba, bc, be, bg, bh, bi⟩ := bc8 (w := wc) y.out
      have bj := blk_frozen y.out
      go_wp2_with (first | ((with_reducible refine gc 92 rfl ?_); refine gl 10 Try.func92 #[.agg #[.int .i64 z, .int .i64 I]] ?_; (with_reducible refine (impl_NodeOk.calls z I true _ A7.out).mono ?_); rintro e bk ⟨rfl, hb⟩; refine ⟨_, rfl, ?_⟩; replace y := bb y hb rfl; replace HB := hs HB hb; (try clear hb); obtain ⟨bl, bm, bn, bo, br, bt, bu, bv⟩ := bc8 (w := bk) y.out; have bw := blk_frozen y.out))
      go_ret
      exact ⟨eqr, bs HB.out⟩
    ·replace c8 := Bool.eq_false_iff.mpr c8
     subst c8
     have H1 : (some (-1)) = some r := by rw [if_neg (show ¬ (false = true) by decide)] at H; exact H
     clear H
     have H := H1
     clear H1
     obtain rfl := Option.some.inj H
     obtain ⟨bz, bA, bB, bC, bD, bE, bF, bG⟩ := bc8 (w := wc) y.out
     have bH := blk_frozen y.out
     go_wp2_with (first | ((with_reducible refine gc 92 rfl ?_); refine gl 10 Try.func92 #[.agg #[.int .i64 z, .int .i64 I]] ?_; (with_reducible refine (impl_NodeOk.calls z I false _ A7.out).mono ?_); rintro e bQ ⟨rfl, hb⟩; refine ⟨_, rfl, ?_⟩; replace y := bb y hb rfl; replace HB := hs HB hb; (try clear hb)))
     go_ret
     exact ⟨eqr, bs HB.out⟩
   ·replace c6 := Bool.eq_false_iff.mpr c6
    subst c6
    have H1 : (if G = 2 then (impl_OpLabel.j1 ai (G == 2) G z I D J L M O) else (impl_OpLabel.j1 ai (G == 3) G z I D J L M O)) = some r := by rw [if_neg (show ¬ (false = true) by decide)] at H; exact H
    clear H
    have H := H1
    clear H1
    have ak := am H
    clear H
    go_upto_if 20 with (fail)
    go_cut [20] (fun bI wc => ∃ (kq : Nat) (ad : Bool), bI = .bool ad ∧ Aside0 (impl_OpLabel.j1 kq ad G z I D J L M O = some r) ∧ Aside0 (kq ≤ ai) ∧ Aside0 (wc.heap[ao]? = some (.cells #[.int .i64 G, .int .i64 z, .int .i64 I, .int .i64 D, .int .i64 J, .int .i64 L, .int .i64 M, .int .i64 O] 58 (0, 0))) ∧ Aside0 (Below w.heap.size w wc))
    case first =>
     have H := ak.out
     clear ak
     by_cases Z : G = 2
     ·rw [if_pos Z] at H
      have ab : (G == 2) = true := beq_iff_eq.mpr Z
      have aF : (G != 2) = false := bne_eq_false_iff_eq.mpr Z
      clear Z
      (first | rw [ab] | (simp only [i64_w, i32_w]; rw [ab]) | skip)
      have H' := am H
      clear H
      go_wp2
      go_meet
      case rel => exact ⟨_, ((G == 2)), eqs, H', ⟨by have := aA.out; first | omega | exact Nat.le_refl _⟩, ⟨bf y.out⟩, ⟨bs HB.out⟩⟩
     ·rw [if_neg Z] at H
      have ab : (G == 2) = false := beq_eq_false_iff_ne.mpr Z
      have aF : (G != 2) = true := bne_iff_ne.mpr Z
      (first | rw [ab] | (simp only [i64_w, i32_w]; rw [ab]) | skip)
      have H' := am H
      clear H
      go_wp2
      go_meet
      case rel => exact ⟨_, ((G == 3)), eqs, H', ⟨by have := aA.out; first | omega | exact Nat.le_refl _⟩, ⟨bf y.out⟩, ⟨bs HB.out⟩⟩
    case rest =>
     clear ak
     try clear c1
     try clear p2
     try clear c4
     try clear Y
     try clear aa
     try clear ah
     try clear c6
     try clear c8
     try clear T
     try clear aC
     try clear aD
     try clear aE
     try clear Z
     try clear ab
     try clear aF
     try clear aH aI aJ aK aL aM aN aO
     try clear aR aS aT aU aV aW aX aY
     try clear a8 a9 ba bc be bg bh bi
     try clear bl bm bn bo br bt bu bv
     try clear bz bA bB bC bD bE bF bG
     try clear ap aq ar au av aw ax ay
     try clear aP
     try clear aZ
     try clear bj
     try clear bw
     try clear bH
     try clear az
     try clear p2
     obtain ⟨kq, ad, rfl, HA, bR, y, HB⟩ := hcut
     cases kq with
     | zero => exact absurd HA.out (by simp [impl_OpLabel.j1])
     | succ bS =>
      have H := HA.out
      clear HA
      simp only [impl_OpLabel.j1] at H
      by_cases ae : ad = true
      ·subst ae
       replace H : ((impl_EdgeOk.f D J L M O).bind fun al => (if al = true then (if (z == 0 && (I == 0)) = true then (some D) else (some (-1))) else (some (-1)))) = some r := by rw [if_pos rfl] at H; exact H
       replace H := Option.bind_eq_some_iff.mp H
       obtain ⟨al, aG, H⟩ := H
       try dsimp -simprocs only at H
       have an := am aG
       clear aG
       by_cases af : al = true
       ·subst af
        replace H : (if (z == 0 && (I == 0)) = true then (some D) else (some (-1))) = some r := by rw [if_pos rfl] at H; exact H
        by_cases X : (z == 0 && (I == 0)) = true
        ·rw [if_pos X] at H
         have bJ : (z == 0 && (I == 0)) = true := X
         (try (have bK : decide (z = 0 && (I == 0)) = true := by simpa using X))
         (try (have bL : (z == 0 && (I == 0)) = true := by simpa using X))
         clear X
         obtain rfl := Option.some.inj H
         obtain ⟨bT, bU, bV, bW, bX, bY, bZ, b0⟩ := bc8 (w := wc) y.out
         have b1 := blk_frozen y.out
         go_wp2_with (first | ((with_reducible refine gc 93 rfl ?_); refine gl 25 Try.func93 #[.agg #[.int .i64 D, .int .i64 J, .int .i64 L, .int .i64 M, .int .i64 O]] ?_; (with_reducible refine (impl_EdgeOk.calls D J L M O true _ an.out).mono ?_); rintro e bM ⟨rfl, hb⟩; refine ⟨_, rfl, ?_⟩; replace y := bb y hb rfl; replace HB := hs HB hb; (try clear hb); obtain ⟨b2, b3, b4, b5, b6, b7, b8, b9⟩ := bc8 (w := bM) y.out; have ce := blk_frozen y.out))
         go_ret
         exact ⟨eqr, bs HB.out⟩
        ·rw [if_neg X] at H
         have bJ : (z == 0 && (I == 0)) = false := by simpa using X
         (try (have bK : decide (z = 0 && (I == 0)) = false := by simpa using X))
         (try (have bL : (z == 0 && (I == 0)) = false := by simpa using X))
         (try (have cf : ¬ (z = 0 && (I == 0)) := by simpa using X))
         clear X
         obtain rfl := Option.some.inj H
         obtain ⟨cg, ch, ci, cj, ck, cl, cm, cn⟩ := bc8 (w := wc) y.out
         have co := blk_frozen y.out
         go_wp2_with (first | ((with_reducible refine gc 93 rfl ?_); refine gl 25 Try.func93 #[.agg #[.int .i64 D, .int .i64 J, .int .i64 L, .int .i64 M, .int .i64 O]] ?_; (with_reducible refine (impl_EdgeOk.calls D J L M O true _ an.out).mono ?_); rintro e bN ⟨rfl, hb⟩; refine ⟨_, rfl, ?_⟩; replace y := bb y hb rfl; replace HB := hs HB hb; (try clear hb); obtain ⟨cp, ct, cu, cv, cy, cz, cA, cB⟩ := bc8 (w := bN) y.out; have cC := blk_frozen y.out))
         go_ret
         exact ⟨eqr, bs HB.out⟩
       ·replace af := Bool.eq_false_iff.mpr af
        subst af
        have H1 : (some (-1)) = some r := by rw [if_neg (show ¬ (false = true) by decide)] at H; exact H
        clear H
        have H := H1
        clear H1
        obtain rfl := Option.some.inj H
        obtain ⟨cD, cE, cF, cG, cH, cI, cJ, cK⟩ := bc8 (w := wc) y.out
        have cL := blk_frozen y.out
        go_wp2_with (first | ((with_reducible refine gc 93 rfl ?_); refine gl 25 Try.func93 #[.agg #[.int .i64 D, .int .i64 J, .int .i64 L, .int .i64 M, .int .i64 O]] ?_; (with_reducible refine (impl_EdgeOk.calls D J L M O false _ an.out).mono ?_); rintro e cM ⟨rfl, hb⟩; refine ⟨_, rfl, ?_⟩; replace y := bb y hb rfl; replace HB := hs HB hb; (try clear hb)))
        go_ret
        exact ⟨eqr, bs HB.out⟩
      ·replace ae := Bool.eq_false_iff.mpr ae
       subst ae
       have H1 : (some (-1)) = some r := by rw [if_neg (show ¬ (false = true) by decide)] at H; exact H
       clear H
       have H := H1
       clear H1
       obtain rfl := Option.some.inj H
       go_wp2
       go_ret
       exact ⟨eqr, bs HB.out⟩

end Go.Proofs.Ytohmemckdogljaa.QFnGraphBent
