/- Contracts of the Go functions that this law reaches: each does what its plain Lean function says. No condition. -/
import Derived.Test.YtohmemckdogljaaQFnExactGraphDox0
import Derived.Test.YtohmemckdogljaaQFnExactGraphDox5
import Derived.Test.YtohmemckdogljaaQFnExactGraphDox6
import Derived.Test.YtohmemckdogljaaQFnExactGraphDox9
namespace Go.Proofs.Ytohmemckdogljaa.QFnExactGraphDo
open Go.RowKit Go.Proofs.YtohmemckdogljaaW.PrintWords Go.Proofs.YtohmemckdogljaaW.PrintLast Go.Proofs.YtohmemckdogljaaW.PrintMore Go.Proofs.Ytohmemckdogljaa.Bl
attribute [local go_sem] max2_int min2_int max_two min_two max_three min_three max_four min_four   -- for this text's walks alone
set_option linter.unusedVariables false
set_option linter.unusedSimpArgs false
set_option maxHeartbeats 8000000
set_option maxRecDepth 100000

/-! ### spec_l2Ends: function 123 -/
mutual
def spec_l2Ends.j0 : Nat → Bool → Bool → Bool → List (S36) → List (S56) → Int → Int → Int → Int → Int → Int → Int → Int → Option (Int)
 | 0, _, _, _, _, _, _, _, _, _, _, _, _, _ => none
 | k + 1, z, y, D, G, I, s, J, L, M, O, T, X, Y => if s = 1 then (if z = true then (spec_l2Ends.j1 k z y D true G I s J L M O T X Y) else (if s = 2 then (spec_l2Ends.j1 k z y D y G I s J L M O T X Y) else (spec_l2Ends.j1 k z y D false G I s J L M O T X Y))) else (if s = 2 then (spec_l2Ends.j1 k z y D y G I s J L M O T X Y) else (spec_l2Ends.j1 k z y D false G I s J L M O T X Y))
def spec_l2Ends.j1 : Nat → Bool → Bool → Bool → Bool → List (S36) → List (S56) → Int → Int → Int → Int → Int → Int → Int → Int → Option (Int)
 | 0, _, _, _, _, _, _, _, _, _, _, _, _, _, _ => none
 | k + 1, Y, X, T, Z, y, z, s, D, G, I, J, L, M, O => if Z = true then (some 2) else (if s = 4 then (if Y = true then (if s = 3 then (if X = true then (if s = 2 then (spec_l2Ends.j2 k (!T) y z s D G I J L M O) else (spec_l2Ends.j2 k false y z s D G I J L M O)) else (spec_l2Ends.j2 k true y z s D G I J L M O)) else (if s = 2 then (spec_l2Ends.j2 k (!T) y z s D G I J L M O) else (spec_l2Ends.j2 k false y z s D G I J L M O))) else (spec_l2Ends.j2 k true y z s D G I J L M O)) else (if s = 3 then (if X = true then (if s = 2 then (spec_l2Ends.j2 k (!T) y z s D G I J L M O) else (spec_l2Ends.j2 k false y z s D G I J L M O)) else (spec_l2Ends.j2 k true y z s D G I J L M O)) else (if s = 2 then (spec_l2Ends.j2 k (!T) y z s D G I J L M O) else (spec_l2Ends.j2 k false y z s D G I J L M O))))
def spec_l2Ends.j2 : Nat → Bool → List (S36) → List (S56) → Int → Int → Int → Int → Int → Int → Int → Int → Option (Int)
 | 0, _, _, _, _, _, _, _, _, _, _, _ => none
 | k + 1, G, s, y, z, I, O, D, T, X, Y, Z => if G = true then (some 3) else (if z = 1 then ((spec_l2Nodes.f k s y I).bind fun J => (if J ≥ 5 then (some 4) else (if z = 2 then ((spec_l2Edges.f k s y D).bind fun L => (if L ≥ 7 then (some 4) else (some 0))) else (some 0)))) else (if z = 2 then ((spec_l2Edges.f k s y D).bind fun M => (if M ≥ 7 then (some 4) else (some 0))) else (some 0)))
end
def spec_l2Ends.f (k : Nat) (s : List (S36)) (y : List (S56)) (O : Int) (J : Int) (L : Int) (M : Int) (z : Int) (D : Int) (G : Int) (I : Int) : Option (Int) := (spec_l2At.f k s y J L).bind fun T => ((spec_l2EdgeAt.f k s y M z D G I).bind fun X => ((spec_l2At.f k s y z D).bind fun Y => (if Y ≥ 0 then ((spec_l2At.f k s y G I).bind fun Z => (spec_l2Ends.j0 k (decide (T ≥ 0)) (decide (X ≥ 0)) (decide (Z ≥ 0)) s y O J L M z D G I)) else (spec_l2Ends.j0 k (decide (T ≥ 0)) (decide (X ≥ 0)) false s y O J L M z D G I))))
theorem spec_l2Ends.calls (k : Nat) (aq : Option Addr) (ar : Nat) (G : List (S36)) (au : Option Addr) (av : Nat) (I : List (S56)) (y : Int) (L : Int) (ae : Int) (J : Int) (M : Int) (O : Int) (ac : Int) (ad : Int) (r : Int) (w : World) (cF : Kd.C k36 w aq G.length G) (cG : G.length ≤ ar) (cH : Kd.C k56 w au I.length I) (cI : I.length ≤ av) (h : spec_l2Ends.f k G I y L ae J M O ac ad = some r) :
  Calls Try.prog 123 #[.agg #[.slice aq G.length ar, .slice au I.length av], .agg #[.int .i64 y, .int .i64 L, .int .i64 ae, .int .i64 J, .int .i64 M, .int .i64 O, .int .i64 ac, .int .i64 ad]] w fun e w' => e = .returned (.int .i64 r) ∧ Below w.heap.size w w' := by
 have hu34 := Try.underlying34
 have hu58 := Try.underlying58
 have hu36 := Try.underlying36
 have hu56 := Try.underlying56
 have ag := am cF
 have ah := am cG
 clear cF cG
 have ai := am cH
 have aj := am cI
 clear cH cI
 have HB := am (Below.refl w.heap.size w)
 have H := h; unfold spec_l2Ends.f at H
 clear h
 replace H := Option.bind_eq_some_iff.mp H
 obtain ⟨aw, cJ, H⟩ := H
 try dsimp -simprocs only at H
 have A3 := am cJ
 clear cJ
 replace H := Option.bind_eq_some_iff.mp H
 obtain ⟨ak, cK, H⟩ := H
 try dsimp -simprocs only at H
 have A4 := am cK
 clear cK
 have bi := am H
 clear H
 go_enter Try.func123, Try.ntmps123
 go_upto_region 3 with (first | ((with_reducible refine gd 2 rfl ?_); refine bx 2 (cs := #[.slice aq G.length ar, .slice au I.length av]) (t := 34) ?_; intro bj hg w6 hbox hb; have z := am hbox; have f7 := gwb HB hg; replace HB := hs HB hb; clear hb hbox hg) | ((with_reducible refine gd 3 rfl ?_); refine bx 3 (cs := #[.int .i64 y, .int .i64 L, .int .i64 ae, .int .i64 J, .int .i64 M, .int .i64 O, .int .i64 ac, .int .i64 ad]) (t := 58) ?_; intro bk hg w7 hbox hb; have s := am hbox; have f8 := gwb HB hg; replace HB := hs HB hb; have T := nq z hg; have X := nq' z hg; replace z := bb z hb rfl; clear hb hbox hg; have f9 := T.out; have ga := X.out; obtain ⟨bl, bm⟩ := bc2 (w := w7) z.out; have bn := blk_frozen z.out; obtain ⟨bo, br, bt, bu, bv, bw, bz, bA⟩ := bc8 (w := w7) s.out; have bB := blk_frozen s.out) | ((with_reducible refine gc 62 rfl ?_); refine gl 11 Try.func62 #[.agg #[.slice aq G.length ar, .slice au I.length av], .agg #[.int .i64 L, .int .i64 ae]] ?_; (with_reducible refine (spec_l2At.calls k _ _ G _ _ I L ae aw _ ?Y ?Z ?aa ?ab A3.out).mono ?_); (case Y => exact Kd.C_below ag.out (bs HB.out)); (case Z => exact ah.out); (case aa => exact Kd.C_below ai.out (bs HB.out)); (case ab => exact aj.out); rintro e cL ⟨rfl, hb⟩; refine ⟨_, rfl, ?_⟩; replace z := bb z hb rfl; replace s := bb s hb rfl; replace HB := hs HB hb; (try clear hb); obtain ⟨bC, bD⟩ := bc2 (w := cL) z.out; have bE := blk_frozen z.out; obtain ⟨bF, bG, bH, bI, bJ, bK, bL, bM⟩ := bc8 (w := cL) s.out; have bN := blk_frozen s.out) | ((with_reducible refine gc 144 rfl ?_); refine gl 16 Try.func144 #[.agg #[.slice aq G.length ar, .slice au I.length av], .agg #[.int .i64 J, .int .i64 M, .int .i64 O, .int .i64 ac, .int .i64 ad]] ?_; (with_reducible refine (spec_l2EdgeAt.calls k _ _ G _ _ I J M O ac ad ak _ ?Y ?Z ?aa ?ab A4.out).mono ?_); (case Y => exact Kd.C_below ag.out (bs HB.out)); (case Z => exact ah.out); (case aa => exact Kd.C_below ai.out (bs HB.out)); (case ab => exact aj.out); rintro e ba ⟨rfl, hb⟩; refine ⟨_, rfl, ?_⟩; replace z := bb z hb rfl; replace s := bb s hb rfl; replace HB := hs HB hb; (try clear hb)))
 (try simp only [Act.put, List.setIfInBounds_toArray, List.set_cons_zero, List.set_cons_succ])
 go_cut [7] (fun v7 wc => ∃ (kq : Nat) (al : Bool), v7 = .bool al ∧ Aside0 (spec_l2Ends.j0 kq (decide (aw ≥ 0)) (decide (ak ≥ 0)) al G I y L ae J M O ac ad = some r) ∧ Aside0 (kq ≤ k) ∧ Aside0 (wc.heap[bj]? = some (.cells #[(.slice aq G.length ar), (.slice au I.length av)] 34 (0, 0))) ∧ Aside0 (wc.heap[bk]? = some (.cells #[.int .i64 y, .int .i64 L, .int .i64 ae, .int .i64 J, .int .i64 M, .int .i64 O, .int .i64 ac, .int .i64 ad] 58 (0, 0))) ∧ Aside0 (Below w.heap.size w wc))
 case first =>
  have H := bi.out
  clear bi
  replace H := Option.bind_eq_some_iff.mp H
  obtain ⟨aY, cM, H⟩ := H
  try dsimp -simprocs only at H
  have cN := am cM
  clear cM
  by_cases ax : aY ≥ 0
  ·rw [if_pos ax] at H
   have aC : decide (0 ≤ aY) = true := decide_eq_true ax
   clear ax
   (first | rw [aC] | (simp only [i64_w, i32_w]; rw [aC]) | skip)
   replace H := Option.bind_eq_some_iff.mp H
   obtain ⟨cO, cP, H⟩ := H
   try dsimp -simprocs only at H
   have ec := am cP
   clear cP
   have H' := am H
   clear H
   have gb := T.out
   have ge := X.out
   obtain ⟨bO, bP⟩ := bc2 (w := ba) z.out
   have bQ := blk_frozen z.out
   obtain ⟨bR, bS, bT, bU, bV, bW, bX, bY⟩ := bc8 (w := ba) s.out
   have bZ := blk_frozen s.out
   go_wp2_with (first | ((with_reducible refine gc 62 rfl ?_); refine gl 22 Try.func62 #[.agg #[.slice aq G.length ar, .slice au I.length av], .agg #[.int .i64 M, .int .i64 O]] ?_; (with_reducible refine (spec_l2At.calls k _ _ G _ _ I M O aY _ ?Y ?Z ?aa ?ab cN.out).mono ?_); (case Y => exact Kd.C_below ag.out (bs HB.out)); (case Z => exact ah.out); (case aa => exact Kd.C_below ai.out (bs HB.out)); (case ab => exact aj.out); rintro e cQ ⟨rfl, hb⟩; refine ⟨_, rfl, ?_⟩; replace z := bb z hb rfl; replace s := bb s hb rfl; replace HB := hs HB hb; (try clear hb); obtain ⟨b0, b1⟩ := bc2 (w := cQ) z.out; have b2 := blk_frozen z.out; obtain ⟨b3, b4, b5, b6, b7, b8, b9, ce⟩ := bc8 (w := cQ) s.out; have cf := blk_frozen s.out) | (go_at_call 62; (with_reducible refine (spec_l2At.calls k _ _ G _ _ I ac ad cO _ ?Y ?Z ?aa ?ab ec.out).mono ?_); (case Y => exact Kd.C_below ag.out (bs HB.out)); (case Z => exact ah.out); (case aa => exact Kd.C_below ai.out (bs HB.out)); (case ab => exact aj.out); rintro e gf ⟨rfl, hb⟩; replace z := bb z hb rfl; replace s := bb s hb rfl; replace HB := hs HB hb; (try clear hb)))
   go_meet
   case rel => exact ⟨_, (decide (cO ≥ 0)), eqs, H', ⟨by first | omega | exact Nat.le_refl _⟩, ⟨bf z.out⟩, ⟨bf s.out⟩, ⟨bs HB.out⟩⟩
  ·rw [if_neg ax] at H
   have aC : decide (0 ≤ aY) = false := decide_eq_false ax
   clear ax
   (first | rw [aC] | (simp only [i64_w, i32_w]; rw [aC]) | skip)
   have H' := am H
   clear H
   have gg := T.out
   have gh := X.out
   obtain ⟨cg, ch⟩ := bc2 (w := ba) z.out
   have ci := blk_frozen z.out
   obtain ⟨cj, ck, cl, cm, cn, co, cp, ct⟩ := bc8 (w := ba) s.out
   have cu := blk_frozen s.out
   go_wp2_with (first | ((with_reducible refine gc 62 rfl ?_); refine gl 22 Try.func62 #[.agg #[.slice aq G.length ar, .slice au I.length av], .agg #[.int .i64 M, .int .i64 O]] ?_; (with_reducible refine (spec_l2At.calls k _ _ G _ _ I M O aY _ ?Y ?Z ?aa ?ab cN.out).mono ?_); (case Y => exact Kd.C_below ag.out (bs HB.out)); (case Z => exact ah.out); (case aa => exact Kd.C_below ai.out (bs HB.out)); (case ab => exact aj.out); rintro e gi ⟨rfl, hb⟩; refine ⟨_, rfl, ?_⟩; replace z := bb z hb rfl; replace s := bb s hb rfl; replace HB := hs HB hb; (try clear hb)))
   go_meet
   case rel => exact ⟨_, (false), eqs, H', ⟨by first | omega | exact Nat.le_refl _⟩, ⟨bf z.out⟩, ⟨bf s.out⟩, ⟨bs HB.out⟩⟩
 case rest =>
  clear bi
  try clear c1
  try clear c2
  try clear p2
  try clear c6
  try clear c8
  try clear cR
  try clear cS
  try clear ax
  try clear aC
  try clear cT
  try clear cU
  try clear bo br bt bu bv bw bz bA
  try clear bC bD
  try clear bF bG bH bI bJ bK bL bM
  try clear bO bP
  try clear bR bS bT bU bV bW bX bY
  try clear b0 b1
  try clear b3 b4 b5 b6 b7 b8 b9 ce
  try clear cg ch
  try clear cj ck cl cm cn co cp ct
  try clear bl bm
  try clear bB
  try clear bE
  try clear bN
  try clear bQ
  try clear bZ
  try clear b2
  try clear cf
  try clear ci
  try clear cu
  try clear bn
  obtain ⟨kq, al, rfl, HA, af, z, s, HB⟩ := hcut
  cases kq with
  | zero => exact absurd HA.out (by simp [spec_l2Ends.j0])
  | succ ed =>
   have H := HA.out
   clear HA
   simp only [spec_l2Ends.j0] at H
   have cv := am H
   clear H
   go_upto_region 4 with (fail)
   go_cut [32] (fun ee wc => ∃ (kq : Nat) (bc : Bool), ee = .bool bc ∧ Aside0 (spec_l2Ends.j1 kq (decide (aw ≥ 0)) (decide (ak ≥ 0)) al bc G I y L ae J M O ac ad = some r) ∧ Aside0 (kq ≤ ed) ∧ Aside0 (wc.heap[bj]? = some (.cells #[(.slice aq G.length ar), (.slice au I.length av)] 34 (0, 0))) ∧ Aside0 (wc.heap[bk]? = some (.cells #[.int .i64 y, .int .i64 L, .int .i64 ae, .int .i64 J, .int .i64 M, .int .i64 O, .int .i64 ac, .int .i64 ad] 58 (0, 0))) ∧ Aside0 (Below w.heap.size w wc))
   case first =>
    have H := cv.out
    clear cv
    by_cases ay : y = 1
    ·rw [if_pos ay] at H
     have aL : (y == 1) = true := beq_iff_eq.mpr ay
     have cy : (y != 1) = false := bne_eq_false_iff_eq.mpr ay
     clear ay
     (first | rw [aL] | (simp only [i64_w, i32_w]; rw [aL]) | skip)
     by_cases aD : (decide (aw ≥ 0)) = true
     ·rw [if_pos aD] at H
      have cz : (decide (aw ≥ 0)) = true := aD
      clear aD
      have H' := am H
      clear H
      have gj := X.out
      have gk := T.out
      obtain ⟨cV, cW, cX, cY, cZ, c0, c9, da⟩ := bc8 (w := wc) s.out
      have db := blk_frozen s.out
      go_wp2
      go_meet
      case rel => exact ⟨_, (true), eqs, H', ⟨by have := af.out; first | omega | exact Nat.le_refl _⟩, ⟨bf z.out⟩, ⟨bf s.out⟩, ⟨bs HB.out⟩⟩
     ·rw [if_neg aD] at H
      have cz : (decide (aw ≥ 0)) = false := by simpa using aD
      clear aD
      by_cases az : y = 2
      ·rw [if_pos az] at H
       have cA : (y == 2) = true := beq_iff_eq.mpr az
       have cB : (y != 2) = false := bne_eq_false_iff_eq.mpr az
       clear az
       have H' := am H
       clear H
       have gm := X.out
       have gn := T.out
       obtain ⟨dc, dd, de, df, dg, dh, di, dj⟩ := bc8 (w := wc) s.out
       have dk := blk_frozen s.out
       go_wp2
       go_meet
       case rel => exact ⟨_, ((decide (ak ≥ 0))), eqs, H', ⟨by have := af.out; first | omega | exact Nat.le_refl _⟩, ⟨bf z.out⟩, ⟨bf s.out⟩, ⟨bs HB.out⟩⟩
      ·rw [if_neg az] at H
       have cA : (y == 2) = false := beq_eq_false_iff_ne.mpr az
       have cB : (y != 2) = true := bne_iff_ne.mpr az
       have H' := am H
       clear H
       have go := X.out
       have gp := T.out
       obtain ⟨dl, dm, dp, dq, dr, dt, du, dv⟩ := bc8 (w := wc) s.out
       have dw := blk_frozen s.out
       go_wp2
       go_meet
       case rel => exact ⟨_, (false), eqs, H', ⟨by have := af.out; first | omega | exact Nat.le_refl _⟩, ⟨bf z.out⟩, ⟨bf s.out⟩, ⟨bs HB.out⟩⟩
    ·rw [if_neg ay] at H
     have aL : (y == 1) = false := beq_eq_false_iff_ne.mpr ay
     have cy : (y != 1) = true := bne_iff_ne.mpr ay
     (first | rw [aL] | (simp only [i64_w, i32_w]; rw [aL]) | skip)
     by_cases aA : y = 2
     ·rw [if_pos aA] at H
      have cC : (y == 2) = true := beq_iff_eq.mpr aA
      have cD : (y != 2) = false := bne_eq_false_iff_eq.mpr aA
      clear aA
      have H' := am H
      clear H
      have gq := X.out
      have gt := T.out
      obtain ⟨dx, dy, dz, dA, dB, dC, dD, dE⟩ := bc8 (w := wc) s.out
      have dF := blk_frozen s.out
      go_wp2
      go_meet
      case rel => exact ⟨_, ((decide (ak ≥ 0))), eqs, H', ⟨by have := af.out; first | omega | exact Nat.le_refl _⟩, ⟨bf z.out⟩, ⟨bf s.out⟩, ⟨bs HB.out⟩⟩
     ·rw [if_neg aA] at H
      have cC : (y == 2) = false := beq_eq_false_iff_ne.mpr aA
      have cD : (y != 2) = true := bne_iff_ne.mpr aA
      have H' := am H
      clear H
      have gu := X.out
      have gv := T.out
      obtain ⟨dG, dH, dI, dJ, dK, dL, dM, dN⟩ := bc8 (w := wc) s.out
      have dO := blk_frozen s.out
      go_wp2
      go_meet
      case rel => exact ⟨_, (false), eqs, H', ⟨by have := af.out; first | omega | exact Nat.le_refl _⟩, ⟨bf z.out⟩, ⟨bf s.out⟩, ⟨bs HB.out⟩⟩
   case rest =>
    clear cv
    try clear c1
    try clear c2
    try clear p2
    try clear c3
    try clear c4
    try clear c6
    try clear c8
    try clear cR
    try clear cS
    try clear ax
    try clear aC
    try clear cT
    try clear cU
    try clear ay
    try clear aL
    try clear cy
    try clear aD
    try clear cz
    try clear ef
    try clear az
    try clear cA
    try clear cB
    try clear eg
    try clear eh
    try clear aA
    try clear cC
    try clear cD
    try clear ei
    try clear ej
    try clear bo br bt bu bv bw bz bA
    try clear bC bD
    try clear bF bG bH bI bJ bK bL bM
    try clear bO bP
    try clear bR bS bT bU bV bW bX bY
    try clear b0 b1
    try clear b3 b4 b5 b6 b7 b8 b9 ce
    try clear cg ch
    try clear cj ck cl cm cn co cp ct
    try clear cV cW cX cY cZ c0 c9 da
    try clear dc dd de df dg dh di dj
    try clear dl dm dp dq dr dt du dv
    try clear dx dy dz dA dB dC dD dE
    try clear dG dH dI dJ dK dL dM dN
    try clear bl bm
    try clear bB
    try clear bE
    try clear bN
    try clear bQ
    try clear bZ
    try clear b2
    try clear cf
    try clear ci
    try clear cu
    try clear db
    try clear dk
    try clear dw
    try clear dF
    try clear dO
    try clear bn
    try clear p2
    obtain ⟨kq, bc, rfl, HA, ao, z, s, HB⟩ := hcut
    cases kq with
    | zero => exact absurd HA.out (by simp [spec_l2Ends.j1])
    | succ an =>
     have H := HA.out
     clear HA
     simp only [spec_l2Ends.j1] at H
     by_cases aZ : bc = true
     ·subst aZ
      replace H : (some 2) = some r := by rw [if_pos rfl] at H; exact H
      obtain rfl := Option.some.inj H
      go_wp2
      go_ret
      exact ⟨eqr, bs HB.out⟩
     ·replace aZ := Bool.eq_false_iff.mpr aZ
      subst aZ
      have H1 : (if y = 4 then (if (decide (aw ≥ 0)) = true then (if y = 3 then (if (decide (ak ≥ 0)) = true then (if y = 2 then (spec_l2Ends.j2 an (!al) G I y L ae J M O ac ad) else (spec_l2Ends.j2 an false G I y L ae J M O ac ad)) else (spec_l2Ends.j2 an true G I y L ae J M O ac ad)) else (if y = 2 then (spec_l2Ends.j2 an (!al) G I y L ae J M O ac ad) else (spec_l2Ends.j2 an false G I y L ae J M O ac ad))) else (spec_l2Ends.j2 an true G I y L ae J M O ac ad)) else (if y = 3 then (if (decide (ak ≥ 0)) = true then (if y = 2 then (spec_l2Ends.j2 an (!al) G I y L ae J M O ac ad) else (spec_l2Ends.j2 an false G I y L ae J M O ac ad)) else (spec_l2Ends.j2 an true G I y L ae J M O ac ad)) else (if y = 2 then (spec_l2Ends.j2 an (!al) G I y L ae J M O ac ad) else (spec_l2Ends.j2 an false G I y L ae J M O ac ad)))) = some r := by rw [if_neg (show ¬ (false = true) by decide)] at H; exact H
      clear H
      have H := H1
      clear H1
      have cE := am H
      clear H
      go_upto_region 6 with (fail)
      go_cut [47] (fun ek wc => ∃ (kq : Nat) (be : Bool), ek = .bool be ∧ Aside0 (spec_l2Ends.j2 kq be G I y L ae J M O ac ad = some r) ∧ Aside0 (kq ≤ an) ∧ Aside0 (wc.heap[bj]? = some (.cells #[(.slice aq G.length ar), (.slice au I.length av)] 34 (0, 0))) ∧ Aside0 (wc.heap[bk]? = some (.cells #[.int .i64 y, .int .i64 L, .int .i64 ae, .int .i64 J, .int .i64 M, .int .i64 O, .int .i64 ac, .int .i64 ad] 58 (0, 0))) ∧ Aside0 (Below w.heap.size w wc))
      case first =>
       have H := cE.out
       clear cE
       by_cases aE : y = 4
       ·rw [if_pos aE] at H
        have aU : (y == 4) = true := beq_iff_eq.mpr aE
        have dP : (y != 4) = false := bne_eq_false_iff_eq.mpr aE
        clear aE
        (first | rw [aU] | (simp only [i64_w, i32_w]; rw [aU]) | skip)
        by_cases aM : (decide (aw ≥ 0)) = true
        ·rw [if_pos aM] at H
         have dQ : (decide (aw ≥ 0)) = true := aM
         clear aM
         by_cases aF : y = 3
         ·rw [if_pos aF] at H
          have dR : (y == 3) = true := beq_iff_eq.mpr aF
          have dS : (y != 3) = false := bne_eq_false_iff_eq.mpr aF
          clear aF
          by_cases aN : (decide (ak ≥ 0)) = true
          ·rw [if_pos aN] at H
           have dT : (decide (ak ≥ 0)) = true := aN
           clear aN
           by_cases aG : y = 2
           ·rw [if_pos aG] at H
            have dU : (y == 2) = true := beq_iff_eq.mpr aG
            have dV : (y != 2) = false := bne_eq_false_iff_eq.mpr aG
            clear aG
            have H' := am H
            clear H
            have gw := X.out
            have gx := T.out
            obtain ⟨el, em, en, eo, ep, eq, er, es⟩ := bc8 (w := wc) s.out
            have et := blk_frozen s.out
            go_wp2
            go_meet
            case rel => exact ⟨_, (!al), eqs, H', ⟨by have := af.out; have := ao.out; first | omega | exact Nat.le_refl _⟩, ⟨bf z.out⟩, ⟨bf s.out⟩, ⟨bs HB.out⟩⟩
           ·rw [if_neg aG] at H
            have dU : (y == 2) = false := beq_eq_false_iff_ne.mpr aG
            have dV : (y != 2) = true := bne_iff_ne.mpr aG
            have H' := am H
            clear H
            have gy := X.out
            have gz := T.out
            obtain ⟨eu, ev, ew, ex, ey, ez, eA, eB⟩ := bc8 (w := wc) s.out
            have eC := blk_frozen s.out
            go_wp2
            go_meet
            case rel => exact ⟨_, (false), eqs, H', ⟨by have := af.out; have := ao.out; first | omega | exact Nat.le_refl _⟩, ⟨bf z.out⟩, ⟨bf s.out⟩, ⟨bs HB.out⟩⟩
          ·rw [if_neg aN] at H
           have dT : (decide (ak ≥ 0)) = false := by simpa using aN
           clear aN
           have H' := am H
           clear H
           have gA := X.out
           have gB := T.out
           obtain ⟨eD, eE, eF, eG, eH, eI, eJ, eK⟩ := bc8 (w := wc) s.out
           have eL := blk_frozen s.out
           go_wp2
           go_meet
           case rel => exact ⟨_, (true), eqs, H', ⟨by have := af.out; have := ao.out; first | omega | exact Nat.le_refl _⟩, ⟨bf z.out⟩, ⟨bf s.out⟩, ⟨bs HB.out⟩⟩
         ·rw [if_neg aF] at H
          have dR : (y == 3) = false := beq_eq_false_iff_ne.mpr aF
          have dS : (y != 3) = true := bne_iff_ne.mpr aF
          by_cases aH : y = 2
          ·rw [if_pos aH] at H
           have dW : (y == 2) = true := beq_iff_eq.mpr aH
           have dX : (y != 2) = false := bne_eq_false_iff_eq.mpr aH
           clear aH
           have H' := am H
           clear H
           have gC := X.out
           have gD := T.out
           obtain ⟨eM, eN, eO, eP, eQ, eR, eS, eT⟩ := bc8 (w := wc) s.out
           have eU := blk_frozen s.out
           go_wp2
           go_meet
           case rel => exact ⟨_, (!al), eqs, H', ⟨by have := af.out; have := ao.out; first | omega | exact Nat.le_refl _⟩, ⟨bf z.out⟩, ⟨bf s.out⟩, ⟨bs HB.out⟩⟩
          ·rw [if_neg aH] at H
           have dW : (y == 2) = false := beq_eq_false_iff_ne.mpr aH
           have dX : (y != 2) = true := bne_iff_ne.mpr aH
           have H' := am H
           clear H
           have gE := X.out
           have gF := T.out
           obtain ⟨eV, eW, eX, eY, eZ, e0, e1, e2⟩ := bc8 (w := wc) s.out
           have e3 := blk_frozen s.out
           go_wp2
           go_meet
           case rel => exact ⟨_, (false), eqs, H', ⟨by have := af.out; have := ao.out; first | omega | exact Nat.le_refl _⟩, ⟨bf z.out⟩, ⟨bf s.out⟩, ⟨bs HB.out⟩⟩
        ·rw [if_neg aM] at H
         have dQ : (decide (aw ≥ 0)) = false := by simpa using aM
         clear aM
         have H' := am H
         clear H
         have gG := X.out
         have gH := T.out
         obtain ⟨e4, e5, e6, e7, e8, e9, fa, fb⟩ := bc8 (w := wc) s.out
         have fc := blk_frozen s.out
         go_wp2
         go_meet
         case rel => exact ⟨_, (true), eqs, H', ⟨by have := af.out; have := ao.out; first | omega | exact Nat.le_refl _⟩, ⟨bf z.out⟩, ⟨bf s.out⟩, ⟨bs HB.out⟩⟩
       ·rw [if_neg aE] at H
        have aU : (y == 4) = false := beq_eq_false_iff_ne.mpr aE
        have dP : (y != 4) = true := bne_iff_ne.mpr aE
        (first | rw [aU] | (simp only [i64_w, i32_w]; rw [aU]) | skip)
        by_cases aI : y = 3
        ·rw [if_pos aI] at H
         have dY : (y == 3) = true := beq_iff_eq.mpr aI
         have dZ : (y != 3) = false := bne_eq_false_iff_eq.mpr aI
         clear aI
         by_cases aO : (decide (ak ≥ 0)) = true
         ·rw [if_pos aO] at H
          have d0 : (decide (ak ≥ 0)) = true := aO
          clear aO
          by_cases aJ : y = 2
          ·rw [if_pos aJ] at H
           have d1 : (y == 2) = true := beq_iff_eq.mpr aJ
           have d2 : (y != 2) = false := bne_eq_false_iff_eq.mpr aJ
           clear aJ
           have H' := am H
           clear H
           have gI := X.out
           have gJ := T.out
           obtain ⟨fd, fe, ff, fg, fh, fi, fj, fk⟩ := bc8 (w := wc) s.out
           have fl := blk_frozen s.out
           go_wp2
           go_meet
           case rel => exact ⟨_, (!al), eqs, H', ⟨by have := af.out; have := ao.out; first | omega | exact Nat.le_refl _⟩, ⟨bf z.out⟩, ⟨bf s.out⟩, ⟨bs HB.out⟩⟩
          ·rw [if_neg aJ] at H
           have d1 : (y == 2) = false := beq_eq_false_iff_ne.mpr aJ
           have d2 : (y != 2) = true := bne_iff_ne.mpr aJ
           have H' := am H
           clear H
           have gK := X.out
           have gL := T.out
           obtain ⟨fm, fo, fp, fq, fr, fs, ft, fu⟩ := bc8 (w := wc) s.out
           have fv := blk_frozen s.out
           go_wp2
           go_meet
           case rel => exact ⟨_, (false), eqs, H', ⟨by have := af.out; have := ao.out; first | omega | exact Nat.le_refl _⟩, ⟨bf z.out⟩, ⟨bf s.out⟩, ⟨bs HB.out⟩⟩
         ·rw [if_neg aO] at H
          have d0 : (decide (ak ≥ 0)) = false := by simpa using aO
          clear aO
          have H' := am H
          clear H
          have gM := X.out
          have gN := T.out
          obtain ⟨fw, fx, fy, fz, fA, fB, fC, fD⟩ := bc8 (w := wc) s.out
          have fE := blk_frozen s.out
          go_wp2
          go_meet
          case rel => exact ⟨_, (true), eqs, H', ⟨by have := af.out; have := ao.out; first | omega | exact Nat.le_refl _⟩, ⟨bf z.out⟩, ⟨bf s.out⟩, ⟨bs HB.out⟩⟩
        ·rw [if_neg aI] at H
         have dY : (y == 3) = false := beq_eq_false_iff_ne.mpr aI
         have dZ : (y != 3) = true := bne_iff_ne.mpr aI
         by_cases aK : y = 2
         ·rw [if_pos aK] at H
          have d3 : (y == 2) = true := beq_iff_eq.mpr aK
          have d4 : (y != 2) = false := bne_eq_false_iff_eq.mpr aK
          clear aK
          have H' := am H
          clear H
          have gO := X.out
          have gP := T.out
          obtain ⟨fF, fG, fH, fI, fJ, fK, fL, fM⟩ := bc8 (w := wc) s.out
          have fN := blk_frozen s.out
          go_wp2
          go_meet
          case rel => exact ⟨_, (!al), eqs, H', ⟨by have := af.out; have := ao.out; first | omega | exact Nat.le_refl _⟩, ⟨bf z.out⟩, ⟨bf s.out⟩, ⟨bs HB.out⟩⟩
         ·rw [if_neg aK] at H
          have d3 : (y == 2) = false := beq_eq_false_iff_ne.mpr aK
          have d4 : (y != 2) = true := bne_iff_ne.mpr aK
          have H' := am H
          clear H
          have gQ := X.out
          have gR := T.out
          obtain ⟨fO, fP, fQ, fR, fS, fT, fU, fV⟩ := bc8 (w := wc) s.out
          have fW := blk_frozen s.out
          go_wp2
          go_meet
          case rel => exact ⟨_, (false), eqs, H', ⟨by have := af.out; have := ao.out; first | omega | exact Nat.le_refl _⟩, ⟨bf z.out⟩, ⟨bf s.out⟩, ⟨bs HB.out⟩⟩
      case rest =>
       clear cE
       try clear c1
       try clear c2
       try clear p2
       try clear c3
       try clear c4
       try clear c5
       try clear c6
       try clear c7
       try clear c8
       try clear cR
       try clear cS
       try clear ax
       try clear aC
       try clear cT
       try clear cU
       try clear ay
       try clear aL
       try clear cy
       try clear aD
       try clear cz
       try clear ef
       try clear az
       try clear cA
       try clear cB
       try clear eg
       try clear eh
       try clear aA
       try clear cC
       try clear cD
       try clear ei
       try clear ej
       try clear aZ
       try clear aE
       try clear aU
       try clear dP
       try clear aM
       try clear dQ
       try clear aF
       try clear dR
       try clear dS
       try clear aN
       try clear dT
       try clear aG
       try clear dU
       try clear dV
       try clear gS
       try clear gT
       try clear gU
       try clear aH
       try clear dW
       try clear dX
       try clear gV
       try clear gW
       try clear gX
       try clear aI
       try clear dY
       try clear dZ
       try clear aO
       try clear d0
       try clear aJ
       try clear d1
       try clear d2
       try clear gY
       try clear gZ
       try clear g0
       try clear aK
       try clear d3
       try clear d4
       try clear g1
       try clear g2
       try clear bo br bt bu bv bw bz bA
       try clear bC bD
       try clear bF bG bH bI bJ bK bL bM
       try clear bO bP
       try clear bR bS bT bU bV bW bX bY
       try clear b0 b1
       try clear b3 b4 b5 b6 b7 b8 b9 ce
       try clear cg ch
       try clear cj ck cl cm cn co cp ct
       try clear cV cW cX cY cZ c0 c9 da
       try clear dc dd de df dg dh di dj
       try clear dl dm dp dq dr dt du dv
       try clear dx dy dz dA dB dC dD dE
       try clear dG dH dI dJ dK dL dM dN
       try clear el em en eo ep eq er es
       try clear eu ev ew ex ey ez eA eB
       try clear eD eE eF eG eH eI eJ eK
       try clear eM eN eO eP eQ eR eS eT
       try clear eV eW eX eY eZ e0 e1 e2
       try clear e4 e5 e6 e7 e8 e9 fa fb
       try clear fd fe ff fg fh fi fj fk
       try clear fm fo fp fq fr fs ft fu
       try clear fw fx fy fz fA fB fC fD
       try clear fF fG fH fI fJ fK fL fM
       try clear fO fP fQ fR fS fT fU fV
       try clear bl bm
       try clear bB
       try clear bE
       try clear bN
       try clear bQ
       try clear bZ
       try clear b2
       try clear cf
       try clear ci
       try clear cu
       try clear db
       try clear dk
       try clear dw
       try clear dF
       try clear dO
       try clear et
       try clear eC
       try clear eL
       try clear eU
       try clear e3
       try clear fc
       try clear fl
       try clear fv
       try clear fE
       try clear fN
       try clear fW
       try clear bn
       try clear p2
       obtain ⟨kq, be, rfl, HA, g3, z, s, HB⟩ := hcut
       cases kq with
       | zero => exact absurd HA.out (by simp [spec_l2Ends.j2])
       | succ ap =>
        have H := HA.out
        clear HA
        simp only [spec_l2Ends.j2] at H
        by_cases bg : be = true
        ·subst bg
         replace H : (some 3) = some r := by rw [if_pos rfl] at H; exact H
         obtain rfl := Option.some.inj H
         go_wp2
         go_ret
         exact ⟨eqr, bs HB.out⟩
        ·replace bg := Bool.eq_false_iff.mpr bg
         subst bg
         have H1 : (if y = 1 then ((spec_l2Nodes.f ap G I L).bind fun aB => (if aB ≥ 5 then (some 4) else (if y = 2 then ((spec_l2Edges.f ap G I J).bind fun aP => (if aP ≥ 7 then (some 4) else (some 0))) else (some 0)))) else (if y = 2 then ((spec_l2Edges.f ap G I J).bind fun aQ => (if aQ ≥ 7 then (some 4) else (some 0))) else (some 0))) = some r := by rw [if_neg (show ¬ (false = true) by decide)] at H; exact H
         clear H
         have H := H1
         clear H1
         by_cases aR : y = 1
         ·rw [if_pos aR] at H
          have fX : (y == 1) = true := beq_iff_eq.mpr aR
          have fY : (y != 1) = false := bne_eq_false_iff_eq.mpr aR
          clear aR
          replace H := Option.bind_eq_some_iff.mp H
          obtain ⟨aB, d5, H⟩ := H
          try dsimp -simprocs only at H
          have bh := am d5
          clear d5
          by_cases aV : aB ≥ 5
          ·rw [if_pos aV] at H
           have fZ : decide (5 ≤ aB) = true := decide_eq_true aV
           clear aV
           obtain rfl := Option.some.inj H
           have g4 := X.out
           have g5 := T.out
           obtain ⟨g6, g7, g8, g9, hh, hj, ho, hp⟩ := bc8 (w := wc) s.out
           have hu := blk_frozen s.out
           obtain ⟨hv, hx⟩ := bc2 (w := wc) z.out
           have hy := blk_frozen z.out
           go_wp2_with (first | (go_at_call 79; (with_reducible refine (spec_l2Nodes.calls ap _ _ G _ _ I L aB _ ?Y ?Z ?aa ?ab bh.out).mono ?_); (case Y => exact Kd.C_below ag.out (bs HB.out)); (case Z => exact ah.out); (case aa => exact Kd.C_below ai.out (bs HB.out)); (case ab => exact aj.out); rintro e hz ⟨rfl, hb⟩; replace z := bb z hb rfl; replace s := bb s hb rfl; replace HB := hs HB hb; (try clear hb)))
           go_ret
           exact ⟨eqr, bs HB.out⟩
          ·rw [if_neg aV] at H
           have fZ : decide (5 ≤ aB) = false := decide_eq_false aV
           clear aV
           by_cases aS : y = 2
           ·rw [if_pos aS] at H
            have f0 : (y == 2) = true := beq_iff_eq.mpr aS
            have f1 : (y != 2) = false := bne_eq_false_iff_eq.mpr aS
            clear aS
            replace H := Option.bind_eq_some_iff.mp H
            obtain ⟨aP, d6, H⟩ := H
            try dsimp -simprocs only at H
            have d7 := am d6
            clear d6
            by_cases aW : aP ≥ 7
            ·rw [if_pos aW] at H
             have f2 : decide (7 ≤ aP) = true := decide_eq_true aW
             clear aW
             obtain rfl := Option.some.inj H
             have hA := X.out
             have hC := T.out
             obtain ⟨hD, hE, hF, hG, hH, hI, hJ, hK⟩ := bc8 (w := wc) s.out
             have hL := blk_frozen s.out
             obtain ⟨hM, hO⟩ := bc2 (w := wc) z.out
             have hP := blk_frozen z.out
             go_wp2_with (first | (go_at_call 79; (with_reducible refine (spec_l2Nodes.calls ap _ _ G _ _ I L aB _ ?Y ?Z ?aa ?ab bh.out).mono ?_); (case Y => exact Kd.C_below ag.out (bs HB.out)); (case Z => exact ah.out); (case aa => exact Kd.C_below ai.out (bs HB.out)); (case ab => exact aj.out); rintro e d8 ⟨rfl, hb⟩; replace z := bb z hb rfl; replace s := bb s hb rfl; replace HB := hs HB hb; (try clear hb); obtain ⟨hR, hT, hU, hV, hW, hX, hY, hZ⟩ := bc8 (w := d8) s.out; have h0 := blk_frozen s.out; obtain ⟨h1, h2⟩ := bc2 (w := d8) z.out; have h3 := blk_frozen z.out) | (go_at_call 80; (with_reducible refine (spec_l2Edges.calls ap _ _ G _ _ I J aP _ ?Y ?Z ?aa ?ab d7.out).mono ?_); (case Y => exact Kd.C_below ag.out (bs HB.out)); (case Z => exact ah.out); (case aa => exact Kd.C_below ai.out (bs HB.out)); (case ab => exact aj.out); rintro e h4 ⟨rfl, hb⟩; replace z := bb z hb rfl; replace s := bb s hb rfl; replace HB := hs HB hb; (try clear hb)))
             go_ret
             exact ⟨eqr, bs HB.out⟩
            ·rw [if_neg aW] at H
             have f2 : decide (7 ≤ aP) = false := decide_eq_false aW
             clear aW
             obtain rfl := Option.some.inj H
             have h5 := X.out
             have h6 := T.out
             obtain ⟨h7, h8, h9, ia, ib, ic, ie, ig⟩ := bc8 (w := wc) s.out
             have ih := blk_frozen s.out
             obtain ⟨ii, ij⟩ := bc2 (w := wc) z.out
             have ik := blk_frozen z.out
             go_wp2_with (first | (go_at_call 79; (with_reducible refine (spec_l2Nodes.calls ap _ _ G _ _ I L aB _ ?Y ?Z ?aa ?ab bh.out).mono ?_); (case Y => exact Kd.C_below ag.out (bs HB.out)); (case Z => exact ah.out); (case aa => exact Kd.C_below ai.out (bs HB.out)); (case ab => exact aj.out); rintro e d9 ⟨rfl, hb⟩; replace z := bb z hb rfl; replace s := bb s hb rfl; replace HB := hs HB hb; (try clear hb); obtain ⟨il, im, io, ip, iq, ir, it, iu⟩ := bc8 (w := d9) s.out; have iv := blk_frozen s.out; obtain ⟨iw, ix⟩ := bc2 (w := d9) z.out; have iy := blk_frozen z.out) | (go_at_call 80; (with_reducible refine (spec_l2Edges.calls ap _ _ G _ _ I J aP _ ?Y ?Z ?aa ?ab d7.out).mono ?_); (case Y => exact Kd.C_below ag.out (bs HB.out)); (case Z => exact ah.out); (case aa => exact Kd.C_below ai.out (bs HB.out)); (case ab => exact aj.out); rintro e iz ⟨rfl, hb⟩; replace z := bb z hb rfl; replace s := bb s hb rfl; replace HB := hs HB hb; (try clear hb)))
             go_ret
             exact ⟨eqr, bs HB.out⟩
           ·rw [if_neg aS] at H
            have f0 : (y == 2) = false := beq_eq_false_iff_ne.mpr aS
            have f1 : (y != 2) = true := bne_iff_ne.mpr aS
            obtain rfl := Option.some.inj H
            have iA := X.out
            have iB := T.out
            obtain ⟨iC, iD, iE, iF, iG, iH, iI, iJ⟩ := bc8 (w := wc) s.out
            have iK := blk_frozen s.out
            obtain ⟨iL, iM⟩ := bc2 (w := wc) z.out
            have iN := blk_frozen z.out
            go_wp2_with (first | (go_at_call 79; (with_reducible refine (spec_l2Nodes.calls ap _ _ G _ _ I L aB _ ?Y ?Z ?aa ?ab bh.out).mono ?_); (case Y => exact Kd.C_below ag.out (bs HB.out)); (case Z => exact ah.out); (case aa => exact Kd.C_below ai.out (bs HB.out)); (case ab => exact aj.out); rintro e f3 ⟨rfl, hb⟩; replace z := bb z hb rfl; replace s := bb s hb rfl; replace HB := hs HB hb; (try clear hb); obtain ⟨iO, iP, iQ, iR, iS, iT, iU, iV⟩ := bc8 (w := f3) s.out; have iW := blk_frozen s.out))
            go_ret
            exact ⟨eqr, bs HB.out⟩
         ·rw [if_neg aR] at H
          have fX : (y == 1) = false := beq_eq_false_iff_ne.mpr aR
          have fY : (y != 1) = true := bne_iff_ne.mpr aR
          by_cases aT : y = 2
          ·rw [if_pos aT] at H
           have f4 : (y == 2) = true := beq_iff_eq.mpr aT
           have f5 : (y != 2) = false := bne_eq_false_iff_eq.mpr aT
           clear aT
           replace H := Option.bind_eq_some_iff.mp H
           obtain ⟨aQ, ea, H⟩ := H
           try dsimp -simprocs only at H
           have eb := am ea
           clear ea
           by_cases aX : aQ ≥ 7
           ·rw [if_pos aX] at H
            have f6 : decide (7 ≤ aQ) = true := decide_eq_true aX
            clear aX
            obtain rfl := Option.some.inj H
            have iX := X.out
            have iY := T.out
            obtain ⟨iZ, i0, i1, i2, i3, i4, i5, i6⟩ := bc8 (w := wc) s.out
            have i7 := blk_frozen s.out
            obtain ⟨i8, i9⟩ := bc2 (w := wc) z.out
            have ja := blk_frozen z.out
            go_wp2_with (first | (go_at_call 80; (with_reducible refine (spec_l2Edges.calls ap _ _ G _ _ I J aQ _ ?Y ?Z ?aa ?ab eb.out).mono ?_); (case Y => exact Kd.C_below ag.out (bs HB.out)); (case Z => exact ah.out); (case aa => exact Kd.C_below ai.out (bs HB.out)); (case ab => exact aj.out); rintro e jb ⟨rfl, hb⟩; replace z := bb z hb rfl; replace s := bb s hb rfl; replace HB := hs HB hb; (try clear hb)))
            go_ret
            exact ⟨eqr, bs HB.out⟩
           ·rw [if_neg aX] at H
            have f6 : decide (7 ≤ aQ) = false := decide_eq_false aX
            clear aX
            obtain rfl := Option.some.inj H
            have jc := X.out
            have jd := T.out
            obtain ⟨je, jf, jg, jh, ji, jj, jk, jl⟩ := bc8 (w := wc) s.out
            have jm := blk_frozen s.out
            obtain ⟨jn, jo⟩ := bc2 (w := wc) z.out
            have jp := blk_frozen z.out
            go_wp2_with (first | (go_at_call 80; (with_reducible refine (spec_l2Edges.calls ap _ _ G _ _ I J aQ _ ?Y ?Z ?aa ?ab eb.out).mono ?_); (case Y => exact Kd.C_below ag.out (bs HB.out)); (case Z => exact ah.out); (case aa => exact Kd.C_below ai.out (bs HB.out)); (case ab => exact aj.out); rintro e jq ⟨rfl, hb⟩; replace z := bb z hb rfl; replace s := bb s hb rfl; replace HB := hs HB hb; (try clear hb)))
            go_ret
            exact ⟨eqr, bs HB.out⟩
          ·rw [if_neg aT] at H
           have f4 : (y == 2) = false := beq_eq_false_iff_ne.mpr aT
           have f5 : (y != 2) = true := bne_iff_ne.mpr aT
           obtain rfl := Option.some.inj H
           have jr := X.out
           have js := T.out
           obtain ⟨jt, ju, jv, jw, jx, jy, jz, jA⟩ := bc8 (w := wc) s.out
           have jB := blk_frozen s.out
           go_wp2
           go_ret
           exact ⟨eqr, bs HB.out⟩

end Go.Proofs.Ytohmemckdogljaa.QFnExactGraphDo
