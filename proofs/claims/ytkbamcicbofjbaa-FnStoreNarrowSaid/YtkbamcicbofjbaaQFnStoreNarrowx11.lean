/- Contracts of the Go functions that this law reaches: each does what its plain Lean function says. No condition. -/
import Derived.Test.YtkbamcicbofjbaaQFnStoreNarrowx0
import Derived.Test.YtkbamcicbofjbaaQFnStoreNarrowx6
import Derived.Test.YtkbamcicbofjbaaQFnStoreNarrowx10
namespace Go.Proofs.Ytkbamcicbofjbaa.QFnStoreNarrow
open Go.RowKit Go.Proofs.YtkbamcicbofjbaaW.PrintWords Go.Proofs.YtkbamcicbofjbaaW.PrintLast Go.Proofs.YtkbamcicbofjbaaW.PrintMore Go.Proofs.Ytkbamcicbofjbaa.Bl
attribute [local go_sem] max2_int min2_int max_two min_two max_three min_three max_four min_four   -- for this text's walks alone
set_option linter.unusedVariables false
set_option linter.unusedSimpArgs false
set_option maxHeartbeats 8000000
set_option maxRecDepth 100000

/-! ### spec_l2Edges: function 49 -/
def spec_l2Edges.l0 : Nat → Int → Int → Int → List (S55) → List (S57) → Option (Int)
 | 0, _, _, _, _, _ => none
 | k + 1, z, D, s, G, y => if s < (y.length : Int) then (if 0 ≤ s then (if ((rd_T57 y s).f0) = z then (spec_l2Edges.l0 k z (wrap64 (D + 1)) (wrap64 (s + 1)) G y) else (spec_l2Edges.l0 k z D (wrap64 (s + 1)) G y)) else (none)) else (some D)
def spec_l2Edges.f (k : Nat) (s : List (S55)) (y : List (S57)) (z : Int) : Option (Int) := spec_l2Edges.l0 k z 0 0 s y
theorem spec_l2Edges.calls (k : Nat) (ab : Option Addr) (ac : Nat) (D : List (S55)) (ad : Option Addr) (ae : Nat) (y : List (S57)) (G : Int) (r : Int) (w : World) (ai : Kd.C k55 w ab D.length D) (aj : D.length ≤ ac) (ak : Kd.C k57 w ad y.length y) (al : y.length ≤ ae) (h : spec_l2Edges.f k D y G = some r) :
  Calls Try.prog 49 #[.agg #[.slice ab D.length ac, .slice ad y.length ae], .int .i64 G] w fun e w' => e = .returned (.int .i64 r) ∧ Below w.heap.size w w' := by
 have hu38 := Try.underlying38
 have av := am ai
 have aw := am aj
 clear ai aj
 have an := am ak
 have ax := am al
 clear ak al
 have HB := am (Below.refl w.heap.size w)
 have H := h; unfold spec_l2Edges.f at H
 clear h
 have H' := am H
 clear H
 go_enter Try.func49, Try.ntmps49
 go_wp2_with (first | ((with_reducible refine gd 2 rfl ?_); refine bx 2 (cs := #[.slice ab D.length ac, .slice ad y.length ae]) (t := 38) ?_; intro ao hg w3 hbox hb; have z := am hbox; have ay := gwb HB hg; replace HB := hs HB hb; clear hb hbox hg))
 go_loopg [5, 6] k (fun kq v5 v6 w' => ∃ (O : Int) (s : Int), v5 = .int .i64 O ∧ v6 = .int .i64 s ∧ Aside0 (spec_l2Edges.l0 kq G O s D y = some r) ∧ Aside0 (kq ≤ k) ∧ Aside0 (w'.heap[ao]? = some (.cells #[(.slice ab D.length ac), (.slice ad y.length ae)] 38 (0, 0))) ∧ Aside0 (Below w.heap.size w w'))
 case atStart => exact ⟨(0), (0), eqs, eqs, H', ⟨Nat.le_refl _⟩, ⟨bf z.out⟩, ⟨bs HB.out⟩⟩
 case round =>
  clear H'
  try clear p2
  obtain ⟨O, s, rfl, rfl, HA, af, z, HB⟩ := hrel
  cases gk with
  | zero => exact absurd HA.out (by simp [spec_l2Edges.l0])
  | succ k1 =>
   have H := HA.out
   clear HA
   simp only [spec_l2Edges.l0] at H
   by_cases M : s < (y.length : Int)
   ·rw [if_pos M] at H
    have ap : decide (s < (y.length : Int)) = true := decide_eq_true M
    clear M
    by_cases c5 : 0 ≤ s
    ·rw [if_pos c5] at H
     have az : decide (0 ≤ s) = true := decide_eq_true c5
     clear c5
     by_cases I : ((rd_T57 y s).f0) = G
     ·rw [if_pos I] at H
      have aq : (((rd_T57 y s).f0) == G) = true := beq_iff_eq.mpr I
      have ar : (((rd_T57 y s).f0) != G) = false := bne_eq_false_iff_eq.mpr I
      clear I
      have H' := am H
      clear H
      obtain ⟨aA, aB⟩ := bc2 (w := wr) z.out
      have aC := blk_frozen z.out
      have J : 0 ≤ (s : Int) := oda
      have L : s < (y.length : Int) := oda
      obtain ⟨au, ah, T, X, Y, Z, aa⟩ := at_T57 an.out s J L
      cases ah
      replace T := cb HB T
      replace X := cb HB X
      replace Y := cb HB Y
      replace Z := cb HB Z
      replace aa := cb HB aa
      replace J := eq_true J
      replace L := eq_true L
      go_wp2
      go_roundg k1
      case measure => have := af.out; omega
      case rel => exact ⟨(wrap64 (O + 1)), (wrap64 (s + 1)), eqs, eqs, H', ⟨by have := af.out; omega⟩, ⟨bf z.out⟩, ⟨bs HB.out⟩⟩
     ·rw [if_neg I] at H
      have aq : (((rd_T57 y s).f0) == G) = false := beq_eq_false_iff_ne.mpr I
      have ar : (((rd_T57 y s).f0) != G) = true := bne_iff_ne.mpr I
      have H' := am H
      clear H
      obtain ⟨aD, aE⟩ := bc2 (w := wr) z.out
      have aF := blk_frozen z.out
      have J : 0 ≤ (s : Int) := oda
      have L : s < (y.length : Int) := oda
      obtain ⟨au, ah, T, X, Y, Z, aa⟩ := at_T57 an.out s J L
      cases ah
      replace T := cb HB T
      replace X := cb HB X
      replace Y := cb HB Y
      replace Z := cb HB Z
      replace aa := cb HB aa
      replace J := eq_true J
      replace L := eq_true L
      go_wp2
      go_roundg k1
      case measure => have := af.out; omega
      case rel => exact ⟨(O), (wrap64 (s + 1)), eqs, eqs, H', ⟨by have := af.out; omega⟩, ⟨bf z.out⟩, ⟨bs HB.out⟩⟩
    ·rw [if_neg c5] at H
     exact absurd H (by simp)
   ·rw [if_neg M] at H
    have ap : decide (s < (y.length : Int)) = false := decide_eq_false M
    clear M
    obtain rfl := Option.some.inj H
    obtain ⟨aG, aH⟩ := bc2 (w := wr) z.out
    have aI := blk_frozen z.out
    go_wp2
    go_ret
    exact ⟨eqr, bs HB.out⟩

/-! ### spec_l2Ends: function 35 -/
mutual
def spec_l2Ends.j0 : Nat → Bool → Bool → Bool → List (S55) → List (S57) → Int → Int → Int → Int → Int → Int → Int → Int → Option (Int)
 | 0, _, _, _, _, _, _, _, _, _, _, _, _, _ => none
 | k + 1, z, y, D, G, I, s, J, L, M, O, T, X, Y => if s = 1 then (if z = true then (spec_l2Ends.j1 k z y D true G I s J L M O T X Y) else (if s = 2 then (spec_l2Ends.j1 k z y D y G I s J L M O T X Y) else (spec_l2Ends.j1 k z y D false G I s J L M O T X Y))) else (if s = 2 then (spec_l2Ends.j1 k z y D y G I s J L M O T X Y) else (spec_l2Ends.j1 k z y D false G I s J L M O T X Y))
def spec_l2Ends.j1 : Nat → Bool → Bool → Bool → Bool → List (S55) → List (S57) → Int → Int → Int → Int → Int → Int → Int → Int → Option (Int)
 | 0, _, _, _, _, _, _, _, _, _, _, _, _, _, _ => none
 | k + 1, Y, X, T, Z, y, z, s, D, G, I, J, L, M, O => if Z = true then (some 2) else (if s = 4 then (if Y = true then (if s = 3 then (if X = true then (if s = 2 then (spec_l2Ends.j2 k (!T) y z s D G I J L M O) else (spec_l2Ends.j2 k false y z s D G I J L M O)) else (spec_l2Ends.j2 k true y z s D G I J L M O)) else (if s = 2 then (spec_l2Ends.j2 k (!T) y z s D G I J L M O) else (spec_l2Ends.j2 k false y z s D G I J L M O))) else (spec_l2Ends.j2 k true y z s D G I J L M O)) else (if s = 3 then (if X = true then (if s = 2 then (spec_l2Ends.j2 k (!T) y z s D G I J L M O) else (spec_l2Ends.j2 k false y z s D G I J L M O)) else (spec_l2Ends.j2 k true y z s D G I J L M O)) else (if s = 2 then (spec_l2Ends.j2 k (!T) y z s D G I J L M O) else (spec_l2Ends.j2 k false y z s D G I J L M O))))
def spec_l2Ends.j2 : Nat → Bool → List (S55) → List (S57) → Int → Int → Int → Int → Int → Int → Int → Int → Option (Int)
 | 0, _, _, _, _, _, _, _, _, _, _, _ => none
 | k + 1, G, s, y, z, I, O, D, T, X, Y, Z => if G = true then (some 3) else (if z = 1 then ((spec_l2Nodes.f k s y I).bind fun J => (if J ≥ 5 then (some 4) else (if z = 2 then ((spec_l2Edges.f k s y D).bind fun L => (if L ≥ 7 then (some 4) else (some 0))) else (some 0)))) else (if z = 2 then ((spec_l2Edges.f k s y D).bind fun M => (if M ≥ 7 then (some 4) else (some 0))) else (some 0)))
end
def spec_l2Ends.f (k : Nat) (s : List (S55)) (y : List (S57)) (O : Int) (J : Int) (L : Int) (M : Int) (z : Int) (D : Int) (G : Int) (I : Int) : Option (Int) := (spec_l2At.f k s y J L).bind fun T => ((spec_l2EdgeAt.f k s y M z D G I).bind fun X => ((spec_l2At.f k s y z D).bind fun Y => (if Y ≥ 0 then ((spec_l2At.f k s y G I).bind fun Z => (spec_l2Ends.j0 k (decide (T ≥ 0)) (decide (X ≥ 0)) (decide (Z ≥ 0)) s y O J L M z D G I)) else (spec_l2Ends.j0 k (decide (T ≥ 0)) (decide (X ≥ 0)) false s y O J L M z D G I))))
theorem spec_l2Ends.calls (k : Nat) (aq : Option Addr) (ar : Nat) (G : List (S55)) (au : Option Addr) (av : Nat) (I : List (S57)) (y : Int) (L : Int) (ae : Int) (J : Int) (M : Int) (O : Int) (ac : Int) (ad : Int) (r : Int) (w : World) (cF : Kd.C k55 w aq G.length G) (cG : G.length ≤ ar) (cH : Kd.C k57 w au I.length I) (cI : I.length ≤ av) (h : spec_l2Ends.f k G I y L ae J M O ac ad = some r) :
  Calls Try.prog 35 #[.agg #[.slice aq G.length ar, .slice au I.length av], .agg #[.int .i64 y, .int .i64 L, .int .i64 ae, .int .i64 J, .int .i64 M, .int .i64 O, .int .i64 ac, .int .i64 ad]] w fun e w' => e = .returned (.int .i64 r) ∧ Below w.heap.size w w' := by
 have hu38 := Try.underlying38
 have hu59 := Try.underlying59
 have hu55 := Try.underlying55
 have hu57 := Try.underlying57
 have ag := am cF
 have ah := am cG
 clear cF cG
 have ai := am cH
 have aj := am cI
 clear cH cI
 have HB := am (Below.refl w.heap.size w)
 have H := h; unfold spec_l2Ends.f at H
 clear h
 replace H := Option.bind_eq_some_iff.mp H
 obtain ⟨aw, cJ, H⟩ := H
 try dsimp -simprocs only at H
 have A3 := am cJ
 clear cJ
 replace H := Option.bind_eq_some_iff.mp H
 obtain ⟨ak, cK, H⟩ := H
 try dsimp -simprocs only at H
 have A4 := am cK
 clear cK
 have bi := am H
 clear H
 go_enter Try.func35, Try.ntmps35
 go_upto_region 3 with (first | ((with_reducible refine gd 2 rfl ?_); refine bx 2 (cs := #[.slice aq G.length ar, .slice au I.length av]) (t := 38) ?_; intro bj hg w6 hbox hb; have z := am hbox; have f7 := gwb HB hg; replace HB := hs HB hb; clear hb hbox hg) | ((with_reducible refine gd 3 rfl ?_); refine bx 3 (cs := #[.int .i64 y, .int .i64 L, .int .i64 ae, .int .i64 J, .int .i64 M, .int .i64 O, .int .i64 ac, .int .i64 ad]) (t := 59) ?_; intro bk hg w7 hbox hb; have s := am hbox; have f8 := gwb HB hg; replace HB := hs HB hb; have T := nq z hg; have X := nq' z hg; replace z := bb z hb rfl; clear hb hbox hg; have f9 := T.out; have ga := X.out; obtain ⟨bl, bm⟩ := bc2 (w := w7) z.out; have bn := blk_frozen z.out; obtain ⟨bo, br, bt, bu, bv, bw, bz, bA⟩ := bc8 (w := w7) s.out; have bB := blk_frozen s.out) | ((with_reducible refine gc 43 rfl ?_); refine gl 11 Try.func43 #[.agg #[.slice aq G.length ar, .slice au I.length av], .agg #[.int .i64 L, .int .i64 ae]] ?_; (with_reducible refine (spec_l2At.calls k _ _ G _ _ I L ae aw _ ?Y ?Z ?aa ?ab A3.out).mono ?_); (case Y => exact Kd.C_below ag.out (bs HB.out)); (case Z => exact ah.out); (case aa => exact Kd.C_below ai.out (bs HB.out)); (case ab => exact aj.out); rintro e cL ⟨rfl, hb⟩; refine ⟨_, rfl, ?_⟩; replace z := bb z hb rfl; replace s := bb s hb rfl; replace HB := hs HB hb; (try clear hb); obtain ⟨bC, bD⟩ := bc2 (w := cL) z.out; have bE := blk_frozen z.out; obtain ⟨bF, bG, bH, bI, bJ, bK, bL, bM⟩ := bc8 (w := cL) s.out; have bN := blk_frozen s.out) | ((with_reducible refine gc 47 rfl ?_); refine gl 16 Try.func47 #[.agg #[.slice aq G.length ar, .slice au I.length av], .agg #[.int .i64 J, .int .i64 M, .int .i64 O, .int .i64 ac, .int .i64 ad]] ?_; (with_reducible refine (spec_l2EdgeAt.calls k _ _ G _ _ I J M O ac ad ak _ ?Y ?Z ?aa ?ab A4.out).mono ?_); (case Y => exact Kd.C_below ag.out (bs HB.out)); (case Z => exact ah.out); (case aa => exact Kd.C_below ai.out (bs HB.out)); (case ab => exact aj.out); rintro e ba ⟨rfl, hb⟩; refine ⟨_, rfl, ?_⟩; replace z := bb z hb rfl; replace s := bb s hb rfl; replace HB := hs HB hb; (try clear hb)))
 (try simp only [Act.put, List.setIfInBounds_toArray, List.set_cons_zero, List.set_cons_succ])
 go_cut [7] (fun v7 wc => ∃ (kq : Nat) (al : Bool), v7 = .bool al ∧ Aside0 (spec_l2Ends.j0 kq (decide (aw ≥ 0)) (decide (ak ≥ 0)) al G I y L ae J M O ac ad = some r) ∧ Aside0 (kq ≤ k) ∧ Aside0 (wc.heap[bj]? = some (.cells #[(.slice aq G.length ar), (.slice au I.length av)] 38 (0, 0))) ∧ Aside0 (wc.heap[bk]? = some (.cells #[.int .i64 y, .int .i64 L, .int .i64 ae, .int .i64 J, .int .i64 M, .int .i64 O, .int .i64 ac, .int .i64 ad] 59 (0, 0))) ∧ Aside0 (Below w.heap.size w wc))
 case first =>
  have H := bi.out
  clear bi
  replace H := Option.bind_eq_some_iff.mp H
  obtain ⟨aY, cM, H⟩ := H
  try dsimp -simprocs only at H
  have cN := am cM
  clear cM
  by_cases ax : aY ≥ 0
  ·rw [if_pos ax] at H
   have aC : decide (0 ≤ aY) = true := decide_eq_true ax
   clear ax
   (first | rw [aC] | (simp only [i64_w, i32_w]; rw [aC]) | skip)
   replace H := Option.bind_eq_some_iff.mp H
   obtain ⟨cO, cP, H⟩ := H
   try dsimp -simprocs only at H
   have ea := am cP
   clear cP
   have H' := am H
   clear H
   have gb := T.out
   have ge := X.out
   obtain ⟨bO, bP⟩ := bc2 (w := ba) z.out
   have bQ := blk_frozen z.out
   obtain ⟨bR, bS, bT, bU, bV, bW, bX, bY⟩ := bc8 (w := ba) s.out
   have bZ := blk_frozen s.out
   go_wp2_with (first | ((with_reducible refine gc 43 rfl ?_); refine gl 22 Try.func43 #[.agg #[.slice aq G.length ar, .slice au I.length av], .agg #[.int .i64 M, .int .i64 O]] ?_; (with_reducible refine (spec_l2At.calls k _ _ G _ _ I M O aY _ ?Y ?Z ?aa ?ab cN.out).mono ?_); (case Y => exact Kd.C_below ag.out (bs HB.out)); (case Z => exact ah.out); (case aa => exact Kd.C_below ai.out (bs HB.out)); (case ab => exact aj.out); rintro e cQ ⟨rfl, hb⟩; refine ⟨_, rfl, ?_⟩; replace z := bb z hb rfl; replace s := bb s hb rfl; replace HB := hs HB hb; (try clear hb); obtain ⟨b0, b1⟩ := bc2 (w := cQ) z.out; have b2 := blk_frozen z.out; obtain ⟨b3, b4, b5, b6, b7, b8, b9, ce⟩ := bc8 (w := cQ) s.out; have cf := blk_frozen s.out) | (go_at_call 43; (with_reducible refine (spec_l2At.calls k _ _ G _ _ I ac ad cO _ ?Y ?Z ?aa ?ab ea.out).mono ?_); (case Y => exact Kd.C_below ag.out (bs HB.out)); (case Z => exact ah.out); (case aa => exact Kd.C_below ai.out (bs HB.out)); (case ab => exact aj.out); rintro e gf ⟨rfl, hb⟩; replace z := bb z hb rfl; replace s := bb s hb rfl; replace HB := hs HB hb; (try clear hb)))
   go_meet
   case rel => exact ⟨_, (decide (cO ≥ 0)), eqs, H', ⟨by first | omega | exact Nat.le_refl _⟩, ⟨bf z.out⟩, ⟨bf s.out⟩, ⟨bs HB.out⟩⟩
  ·rw [if_neg ax] at H
   have aC : decide (0 ≤ aY) = false := decide_eq_false ax
   clear ax
   (first | rw [aC] | (simp only [i64_w, i32_w]; rw [aC]) | skip)
   have H' := am H
   clear H
   have gg := T.out
   have gh := X.out
   obtain ⟨cg, ch⟩ := bc2 (w := ba) z.out
   have ci := blk_frozen z.out
   obtain ⟨cj, ck, cl, cm, cn, co, cp, ct⟩ := bc8 (w := ba) s.out
   have cu := blk_frozen s.out
   go_wp2_with (first | ((with_reducible refine gc 43 rfl ?_); refine gl 22 Try.func43 #[.agg #[.slice aq G.length ar, .slice au I.length av], .agg #[.int .i64 M, .int .i64 O]] ?_; (with_reducible refine (spec_l2At.calls k _ _ G _ _ I M O aY _ ?Y ?Z ?aa ?ab cN.out).mono ?_); (case Y => exact Kd.C_below ag.out (bs HB.out)); (case Z => exact ah.out); (case aa => exact Kd.C_below ai.out (bs HB.out)); (case ab => exact aj.out); rintro e gi ⟨rfl, hb⟩; refine ⟨_, rfl, ?_⟩; replace z := bb z hb rfl; replace s := bb s hb rfl; replace HB := hs HB hb; (try clear hb)))
   go_meet
   case rel => exact ⟨_, (false), eqs, H', ⟨by first | omega | exact Nat.le_refl _⟩, ⟨bf z.out⟩, ⟨bf s.out⟩, ⟨bs HB.out⟩⟩
 case rest =>
  clear bi
  try clear c1
  try clear c2
  try clear p2
  try clear c3
  try clear c4
  try clear c8
  try clear ax
  try clear aC
  try clear cR
  try clear cS
  try clear bo br bt bu bv bw bz bA
  try clear bC bD
  try clear bF bG bH bI bJ bK bL bM
  try clear bO bP
  try clear bR bS bT bU bV bW bX bY
  try clear b0 b1
  try clear b3 b4 b5 b6 b7 b8 b9 ce
  try clear cg ch
  try clear cj ck cl cm cn co cp ct
  try clear bl bm
  try clear bB
  try clear bE
  try clear bN
  try clear bQ
  try clear bZ
  try clear b2
  try clear cf
  try clear ci
  try clear cu
  try clear bn
  obtain ⟨kq, al, rfl, HA, af, z, s, HB⟩ := hcut
  cases kq with
  | zero => exact absurd HA.out (by simp [spec_l2Ends.j0])
  | succ eb =>
   have H := HA.out
   clear HA
   simp only [spec_l2Ends.j0] at H
   have cv := am H
   clear H
   go_upto_region 4 with (fail)
   go_cut [32] (fun ec wc => ∃ (kq : Nat) (bc : Bool), ec = .bool bc ∧ Aside0 (spec_l2Ends.j1 kq (decide (aw ≥ 0)) (decide (ak ≥ 0)) al bc G I y L ae J M O ac ad = some r) ∧ Aside0 (kq ≤ eb) ∧ Aside0 (wc.heap[bj]? = some (.cells #[(.slice aq G.length ar), (.slice au I.length av)] 38 (0, 0))) ∧ Aside0 (wc.heap[bk]? = some (.cells #[.int .i64 y, .int .i64 L, .int .i64 ae, .int .i64 J, .int .i64 M, .int .i64 O, .int .i64 ac, .int .i64 ad] 59 (0, 0))) ∧ Aside0 (Below w.heap.size w wc))
   case first =>
    have H := cv.out
    clear cv
    by_cases ay : y = 1
    ·rw [if_pos ay] at H
     have aL : (y == 1) = true := beq_iff_eq.mpr ay
     have cy : (y != 1) = false := bne_eq_false_iff_eq.mpr ay
     clear ay
     (first | rw [aL] | (simp only [i64_w, i32_w]; rw [aL]) | skip)
     by_cases aD : (decide (aw ≥ 0)) = true
     ·rw [if_pos aD] at H
      have cz : (decide (aw ≥ 0)) = true := aD
      clear aD
      have H' := am H
      clear H
      have gj := X.out
      have gm := T.out
      obtain ⟨cT, cU, cV, cW, cX, cY, cZ, c0⟩ := bc8 (w := wc) s.out
      have c9 := blk_frozen s.out
      go_wp2
      go_meet
      case rel => exact ⟨_, (true), eqs, H', ⟨by have := af.out; first | omega | exact Nat.le_refl _⟩, ⟨bf z.out⟩, ⟨bf s.out⟩, ⟨bs HB.out⟩⟩
     ·rw [if_neg aD] at H
      have cz : (decide (aw ≥ 0)) = false := by simpa using aD
      clear aD
      by_cases az : y = 2
      ·rw [if_pos az] at H
       have cA : (y == 2) = true := beq_iff_eq.mpr az
       have cB : (y != 2) = false := bne_eq_false_iff_eq.mpr az
       clear az
       have H' := am H
       clear H
       have gn := X.out
       have go := T.out
       obtain ⟨da, db, dc, dd, de, df, dg, dh⟩ := bc8 (w := wc) s.out
       have di := blk_frozen s.out
       go_wp2
       go_meet
       case rel => exact ⟨_, ((decide (ak ≥ 0))), eqs, H', ⟨by have := af.out; first | omega | exact Nat.le_refl _⟩, ⟨bf z.out⟩, ⟨bf s.out⟩, ⟨bs HB.out⟩⟩
      ·rw [if_neg az] at H
       have cA : (y == 2) = false := beq_eq_false_iff_ne.mpr az
       have cB : (y != 2) = true := bne_iff_ne.mpr az
       have H' := am H
       clear H
       have gp := X.out
       have gq := T.out
       obtain ⟨dj, dk, dl, dm, dp, dq, dr, dt⟩ := bc8 (w := wc) s.out
       have du := blk_frozen s.out
       go_wp2
       go_meet
       case rel => exact ⟨_, (false), eqs, H', ⟨by have := af.out; first | omega | exact Nat.le_refl _⟩, ⟨bf z.out⟩, ⟨bf s.out⟩, ⟨bs HB.out⟩⟩
    ·rw [if_neg ay] at H
     have aL : (y == 1) = false := beq_eq_false_iff_ne.mpr ay
     have cy : (y != 1) = true := bne_iff_ne.mpr ay
     (first | rw [aL] | (simp only [i64_w, i32_w]; rw [aL]) | skip)
     by_cases aA : y = 2
     ·rw [if_pos aA] at H
      have cC : (y == 2) = true := beq_iff_eq.mpr aA
      have cD : (y != 2) = false := bne_eq_false_iff_eq.mpr aA
      clear aA
      have H' := am H
      clear H
      have gt := X.out
      have gu := T.out
      obtain ⟨dv, dw, dx, dy, dz, dA, dB, dC⟩ := bc8 (w := wc) s.out
      have dD := blk_frozen s.out
      go_wp2
      go_meet
      case rel => exact ⟨_, ((decide (ak ≥ 0))), eqs, H', ⟨by have := af.out; first | omega | exact Nat.le_refl _⟩, ⟨bf z.out⟩, ⟨bf s.out⟩, ⟨bs HB.out⟩⟩
     ·rw [if_neg aA] at H
      have cC : (y == 2) = false := beq_eq_false_iff_ne.mpr aA
      have cD : (y != 2) = true := bne_iff_ne.mpr aA
      have H' := am H
      clear H
      have gv := X.out
      have gw := T.out
      obtain ⟨dE, dF, dG, dH, dI, dJ, dK, dL⟩ := bc8 (w := wc) s.out
      have dM := blk_frozen s.out
      go_wp2
      go_meet
      case rel => exact ⟨_, (false), eqs, H', ⟨by have := af.out; first | omega | exact Nat.le_refl _⟩, ⟨bf z.out⟩, ⟨bf s.out⟩, ⟨bs HB.out⟩⟩
   case rest =>
    clear cv
    try clear c1
    try clear c2
    try clear p2
    try clear c3
    try clear c4
    try clear c8
    try clear ax
    try clear aC
    try clear cR
    try clear cS
    try clear ay
    try clear aL
    try clear cy
    try clear aD
    try clear cz
    try clear ed
    try clear az
    try clear cA
    try clear cB
    try clear ee
    try clear ef
    try clear aA
    try clear cC
    try clear cD
    try clear eg
    try clear eh
    try clear ei
    try clear bo br bt bu bv bw bz bA
    try clear bC bD
    try clear bF bG bH bI bJ bK bL bM
    try clear bO bP
    try clear bR bS bT bU bV bW bX bY
    try clear b0 b1
    try clear b3 b4 b5 b6 b7 b8 b9 ce
    try clear cg ch
    try clear cj ck cl cm cn co cp ct
    try clear cT cU cV cW cX cY cZ c0
    try clear da db dc dd de df dg dh
    try clear dj dk dl dm dp dq dr dt
    try clear dv dw dx dy dz dA dB dC
    try clear dE dF dG dH dI dJ dK dL
    try clear bl bm
    try clear bB
    try clear bE
    try clear bN
    try clear bQ
    try clear bZ
    try clear b2
    try clear cf
    try clear ci
    try clear cu
    try clear c9
    try clear di
    try clear du
    try clear dD
    try clear dM
    try clear bn
    try clear p2
    obtain ⟨kq, bc, rfl, HA, ao, z, s, HB⟩ := hcut
    cases kq with
    | zero => exact absurd HA.out (by simp [spec_l2Ends.j1])
    | succ an =>
     have H := HA.out
     clear HA
     simp only [spec_l2Ends.j1] at H
     by_cases aZ : bc = true
     ·subst aZ
      replace H : (some 2) = some r := by rw [if_pos rfl] at H; exact H
      obtain rfl := Option.some.inj H
      go_wp2
      go_ret
      exact ⟨eqr, bs HB.out⟩
     ·replace aZ := Bool.eq_false_iff.mpr aZ
      subst aZ
      have H1 : (if y = 4 then (if (decide (aw ≥ 0)) = true then (if y = 3 then (if (decide (ak ≥ 0)) = true then (if y = 2 then (spec_l2Ends.j2 an (!al) G I y L ae J M O ac ad) else (spec_l2Ends.j2 an false G I y L ae J M O ac ad)) else (spec_l2Ends.j2 an true G I y L ae J M O ac ad)) else (if y = 2 then (spec_l2Ends.j2 an (!al) G I y L ae J M O ac ad) else (spec_l2Ends.j2 an false G I y L ae J M O ac ad))) else (spec_l2Ends.j2 an true G I y L ae J M O ac ad)) else (if y = 3 then (if (decide (ak ≥ 0)) = true then (if y = 2 then (spec_l2Ends.j2 an (!al) G I y L ae J M O ac ad) else (spec_l2Ends.j2 an false G I y L ae J M O ac ad)) else (spec_l2Ends.j2 an true G I y L ae J M O ac ad)) else (if y = 2 then (spec_l2Ends.j2 an (!al) G I y L ae J M O ac ad) else (spec_l2Ends.j2 an false G I y L ae J M O ac ad)))) = some r := by rw [if_neg (show ¬ (false = true) by decide)] at H; exact H
      clear H
      have H := H1
      clear H1
      have cE := am H
      clear H
      go_upto_region 6 with (fail)
      go_cut [47] (fun ej wc => ∃ (kq : Nat) (be : Bool), ej = .bool be ∧ Aside0 (spec_l2Ends.j2 kq be G I y L ae J M O ac ad = some r) ∧ Aside0 (kq ≤ an) ∧ Aside0 (wc.heap[bj]? = some (.cells #[(.slice aq G.length ar), (.slice au I.length av)] 38 (0, 0))) ∧ Aside0 (wc.heap[bk]? = some (.cells #[.int .i64 y, .int .i64 L, .int .i64 ae, .int .i64 J, .int .i64 M, .int .i64 O, .int .i64 ac, .int .i64 ad] 59 (0, 0))) ∧ Aside0 (Below w.heap.size w wc))
      case first =>
       have H := cE.out
       clear cE
       by_cases aE : y = 4
       ·rw [if_pos aE] at H
        have aU : (y == 4) = true := beq_iff_eq.mpr aE
        have dN : (y != 4) = false := bne_eq_false_iff_eq.mpr aE
        clear aE
        (first | rw [aU] | (simp only [i64_w, i32_w]; rw [aU]) | skip)
        by_cases aM : (decide (aw ≥ 0)) = true
        ·rw [if_pos aM] at H
         have dO : (decide (aw ≥ 0)) = true := aM
         clear aM
         by_cases aF : y = 3
         ·rw [if_pos aF] at H
          have dP : (y == 3) = true := beq_iff_eq.mpr aF
          have dQ : (y != 3) = false := bne_eq_false_iff_eq.mpr aF
          clear aF
          by_cases aN : (decide (ak ≥ 0)) = true
          ·rw [if_pos aN] at H
           have dR : (decide (ak ≥ 0)) = true := aN
           clear aN
           by_cases aG : y = 2
           ·rw [if_pos aG] at H
            have dS : (y == 2) = true := beq_iff_eq.mpr aG
            have dT : (y != 2) = false := bne_eq_false_iff_eq.mpr aG
            clear aG
            have H' := am H
            clear H
            have gx := X.out
            have gy := T.out
            obtain ⟨ek, el, em, en, eo, ep, eq, er⟩ := bc8 (w := wc) s.out
            have es := blk_frozen s.out
            go_wp2
            go_meet
            case rel => exact ⟨_, (!al), eqs, H', ⟨by have := af.out; have := ao.out; first | omega | exact Nat.le_refl _⟩, ⟨bf z.out⟩, ⟨bf s.out⟩, ⟨bs HB.out⟩⟩
           ·rw [if_neg aG] at H
            have dS : (y == 2) = false := beq_eq_false_iff_ne.mpr aG
            have dT : (y != 2) = true := bne_iff_ne.mpr aG
            have H' := am H
            clear H
            have gz := X.out
            have gA := T.out
            obtain ⟨et, eu, ev, ew, ex, ey, ez, eA⟩ := bc8 (w := wc) s.out
            have eB := blk_frozen s.out
            go_wp2
            go_meet
            case rel => exact ⟨_, (false), eqs, H', ⟨by have := af.out; have := ao.out; first | omega | exact Nat.le_refl _⟩, ⟨bf z.out⟩, ⟨bf s.out⟩, ⟨bs HB.out⟩⟩
          ·rw [if_neg aN] at H
           have dR : (decide (ak ≥ 0)) = false := by simpa using aN
           clear aN
           have H' := am H
           clear H
           have gB := X.out
           have gC := T.out
           obtain ⟨eC, eD, eE, eF, eG, eH, eI, eJ⟩ := bc8 (w := wc) s.out
           have eK := blk_frozen s.out
           go_wp2
           go_meet
           case rel => exact ⟨_, (true), eqs, H', ⟨by have := af.out; have := ao.out; first | omega | exact Nat.le_refl _⟩, ⟨bf z.out⟩, ⟨bf s.out⟩, ⟨bs HB.out⟩⟩
         ·rw [if_neg aF] at H
          have dP : (y == 3) = false := beq_eq_false_iff_ne.mpr aF
          have dQ : (y != 3) = true := bne_iff_ne.mpr aF
          by_cases aH : y = 2
          ·rw [if_pos aH] at H
           have dU : (y == 2) = true := beq_iff_eq.mpr aH
           have dV : (y != 2) = false := bne_eq_false_iff_eq.mpr aH
           clear aH
           have H' := am H
           clear H
           have gD := X.out
           have gE := T.out
           obtain ⟨eL, eM, eN, eO, eP, eQ, eR, eS⟩ := bc8 (w := wc) s.out
           have eT := blk_frozen s.out
           go_wp2
           go_meet
           case rel => exact ⟨_, (!al), eqs, H', ⟨by have := af.out; have := ao.out; first | omega | exact Nat.le_refl _⟩, ⟨bf z.out⟩, ⟨bf s.out⟩, ⟨bs HB.out⟩⟩
          ·rw [if_neg aH] at H
           have dU : (y == 2) = false := beq_eq_false_iff_ne.mpr aH
           have dV : (y != 2) = true := bne_iff_ne.mpr aH
           have H' := am H
           clear H
           have gF := X.out
           have gG := T.out
           obtain ⟨eU, eV, eW, eX, eY, eZ, e0, e1⟩ := bc8 (w := wc) s.out
           have e2 := blk_frozen s.out
           go_wp2
           go_meet
           case rel => exact ⟨_, (false), eqs, H', ⟨by have := af.out; have := ao.out; first | omega | exact Nat.le_refl _⟩, ⟨bf z.out⟩, ⟨bf s.out⟩, ⟨bs HB.out⟩⟩
        ·rw [if_neg aM] at H
         have dO : (decide (aw ≥ 0)) = false := by simpa using aM
         clear aM
         have H' := am H
         clear H
         have gH := X.out
         have gI := T.out
         obtain ⟨e3, e4, e5, e6, e7, e8, e9, fa⟩ := bc8 (w := wc) s.out
         have fb := blk_frozen s.out
         go_wp2
         go_meet
         case rel => exact ⟨_, (true), eqs, H', ⟨by have := af.out; have := ao.out; first | omega | exact Nat.le_refl _⟩, ⟨bf z.out⟩, ⟨bf s.out⟩, ⟨bs HB.out⟩⟩
       ·rw [if_neg aE] at H
        have aU : (y == 4) = false := beq_eq_false_iff_ne.mpr aE
        have dN : (y != 4) = true := bne_iff_ne.mpr aE
        (first | rw [aU] | (simp only [i64_w, i32_w]; rw [aU]) | skip)
        by_cases aI : y = 3
        ·rw [if_pos aI] at H
         have dW : (y == 3) = true := beq_iff_eq.mpr aI
         have dX : (y != 3) = false := bne_eq_false_iff_eq.mpr aI
         clear aI
         by_cases aO : (decide (ak ≥ 0)) = true
         ·rw [if_pos aO] at H
          have dY : (decide (ak ≥ 0)) = true := aO
          clear aO
          by_cases aJ : y = 2
          ·rw [if_pos aJ] at H
           have dZ : (y == 2) = true := beq_iff_eq.mpr aJ
           have d0 : (y != 2) = false := bne_eq_false_iff_eq.mpr aJ
           clear aJ
           have H' := am H
           clear H
           have gJ := X.out
           have gK := T.out
           obtain ⟨fc, fd, fe, ff, fg, fh, fi, fj⟩ := bc8 (w := wc) s.out
           have fk := blk_frozen s.out
           go_wp2
           go_meet
           case rel => exact ⟨_, (!al), eqs, H', ⟨by have := af.out; have := ao.out; first | omega | exact Nat.le_refl _⟩, ⟨bf z.out⟩, ⟨bf s.out⟩, ⟨bs HB.out⟩⟩
          ·rw [if_neg aJ] at H
           have dZ : (y == 2) = false := beq_eq_false_iff_ne.mpr aJ
           have d0 : (y != 2) = true := bne_iff_ne.mpr aJ
           have H' := am H
           clear H
           have gL := X.out
           have gM := T.out
           obtain ⟨fl, fm, fo, fp, fq, fr, fs, ft⟩ := bc8 (w := wc) s.out
           have fu := blk_frozen s.out
           go_wp2
           go_meet
           case rel => exact ⟨_, (false), eqs, H', ⟨by have := af.out; have := ao.out; first | omega | exact Nat.le_refl _⟩, ⟨bf z.out⟩, ⟨bf s.out⟩, ⟨bs HB.out⟩⟩
         ·rw [if_neg aO] at H
          have dY : (decide (ak ≥ 0)) = false := by simpa using aO
          clear aO
          have H' := am H
          clear H
          have gN := X.out
          have gO := T.out
          obtain ⟨fv, fw, fx, fy, fz, fA, fB, fC⟩ := bc8 (w := wc) s.out
          have fD := blk_frozen s.out
          go_wp2
          go_meet
          case rel => exact ⟨_, (true), eqs, H', ⟨by have := af.out; have := ao.out; first | omega | exact Nat.le_refl _⟩, ⟨bf z.out⟩, ⟨bf s.out⟩, ⟨bs HB.out⟩⟩
        ·rw [if_neg aI] at H
         have dW : (y == 3) = false := beq_eq_false_iff_ne.mpr aI
         have dX : (y != 3) = true := bne_iff_ne.mpr aI
         by_cases aK : y = 2
         ·rw [if_pos aK] at H
          have d1 : (y == 2) = true := beq_iff_eq.mpr aK
          have d2 : (y != 2) = false := bne_eq_false_iff_eq.mpr aK
          clear aK
          have H' := am H
          clear H
          have gP := X.out
          have gQ := T.out
          obtain ⟨fE, fF, fG, fH, fI, fJ, fK, fL⟩ := bc8 (w := wc) s.out
          have fM := blk_frozen s.out
          go_wp2
          go_meet
          case rel => exact ⟨_, (!al), eqs, H', ⟨by have := af.out; have := ao.out; first | omega | exact Nat.le_refl _⟩, ⟨bf z.out⟩, ⟨bf s.out⟩, ⟨bs HB.out⟩⟩
         ·rw [if_neg aK] at H
          have d1 : (y == 2) = false := beq_eq_false_iff_ne.mpr aK
          have d2 : (y != 2) = true := bne_iff_ne.mpr aK
          have H' := am H
          clear H
          have gR := X.out
          have gS := T.out
          obtain ⟨fN, fO, fP, fQ, fR, fS, fT, fU⟩ := bc8 (w := wc) s.out
          have fV := blk_frozen s.out
          go_wp2
          go_meet
          case rel => exact ⟨_, (false), eqs, H', ⟨by have := af.out; have := ao.out; first | omega | exact Nat.le_refl _⟩, ⟨bf z.out⟩, ⟨bf s.out⟩, ⟨bs HB.out⟩⟩
      case rest =>
       clear cE
       try clear c1
       try clear c2
       try clear p2
       try clear c3
       try clear c4
       try clear c5
       try clear c6
       try clear c7
       try clear c8
       try clear ax
       try clear aC
       try clear cR
       try clear cS
       try clear ay
       try clear aL
       try clear cy
       try clear aD
       try clear cz
       try clear ed
       try clear az
       try clear cA
       try clear cB
       try clear ee
       try clear ef
       try clear aA
       try clear cC
       try clear cD
       try clear eg
       try clear eh
       try clear ei
       try clear aZ
       try clear aE
       try clear aU
       try clear dN
       try clear aM
       try clear dO
       try clear aF
       try clear dP
       try clear dQ
       try clear aN
       try clear dR
       try clear aG
       try clear dS
       try clear dT
       try clear gT
       try clear gU
       try clear gV
       try clear aH
       try clear dU
       try clear dV
       try clear gW
       try clear gX
       try clear gY
       try clear aI
       try clear dW
       try clear dX
       try clear aO
       try clear dY
       try clear aJ
       try clear dZ
       try clear d0
       try clear gZ
       try clear g0
       try clear g1
       try clear aK
       try clear d1
       try clear d2
       try clear g2
       try clear g3
       try clear bo br bt bu bv bw bz bA
       try clear bC bD
       try clear bF bG bH bI bJ bK bL bM
       try clear bO bP
       try clear bR bS bT bU bV bW bX bY
       try clear b0 b1
       try clear b3 b4 b5 b6 b7 b8 b9 ce
       try clear cg ch
       try clear cj ck cl cm cn co cp ct
       try clear cT cU cV cW cX cY cZ c0
       try clear da db dc dd de df dg dh
       try clear dj dk dl dm dp dq dr dt
       try clear dv dw dx dy dz dA dB dC
       try clear dE dF dG dH dI dJ dK dL
       try clear ek el em en eo ep eq er
       try clear et eu ev ew ex ey ez eA
       try clear eC eD eE eF eG eH eI eJ
       try clear eL eM eN eO eP eQ eR eS
       try clear eU eV eW eX eY eZ e0 e1
       try clear e3 e4 e5 e6 e7 e8 e9 fa
       try clear fc fd fe ff fg fh fi fj
       try clear fl fm fo fp fq fr fs ft
       try clear fv fw fx fy fz fA fB fC
       try clear fE fF fG fH fI fJ fK fL
       try clear fN fO fP fQ fR fS fT fU
       try clear bl bm
       try clear bB
       try clear bE
       try clear bN
       try clear bQ
       try clear bZ
       try clear b2
       try clear cf
       try clear ci
       try clear cu
       try clear c9
       try clear di
       try clear du
       try clear dD
       try clear dM
       try clear es
       try clear eB
       try clear eK
       try clear eT
       try clear e2
       try clear fb
       try clear fk
       try clear fu
       try clear fD
       try clear fM
       try clear fV
       try clear bn
       try clear p2
       obtain ⟨kq, be, rfl, HA, g4, z, s, HB⟩ := hcut
       cases kq with
       | zero => exact absurd HA.out (by simp [spec_l2Ends.j2])
       | succ ap =>
        have H := HA.out
        clear HA
        simp only [spec_l2Ends.j2] at H
        by_cases bg : be = true
        ·subst bg
         replace H : (some 3) = some r := by rw [if_pos rfl] at H; exact H
         obtain rfl := Option.some.inj H
         go_wp2
         go_ret
         exact ⟨eqr, bs HB.out⟩
        ·replace bg := Bool.eq_false_iff.mpr bg
         subst bg
         have H1 : (if y = 1 then ((spec_l2Nodes.f ap G I L).bind fun aB => (if aB ≥ 5 then (some 4) else (if y = 2 then ((spec_l2Edges.f ap G I J).bind fun aP => (if aP ≥ 7 then (some 4) else (some 0))) else (some 0)))) else (if y = 2 then ((spec_l2Edges.f ap G I J).bind fun aQ => (if aQ ≥ 7 then (some 4) else (some 0))) else (some 0))) = some r := by rw [if_neg (show ¬ (false = true) by decide)] at H; exact H
         clear H
         have H := H1
         clear H1
         by_cases aR : y = 1
         ·rw [if_pos aR] at H
          have fW : (y == 1) = true := beq_iff_eq.mpr aR
          have fX : (y != 1) = false := bne_eq_false_iff_eq.mpr aR
          clear aR
          replace H := Option.bind_eq_some_iff.mp H
          obtain ⟨aB, d3, H⟩ := H
          try dsimp -simprocs only at H
          have bh := am d3
          clear d3
          by_cases aV : aB ≥ 5
          ·rw [if_pos aV] at H
           have fY : decide (5 ≤ aB) = true := decide_eq_true aV
           clear aV
           obtain rfl := Option.some.inj H
           have g5 := X.out
           have g6 := T.out
           obtain ⟨g7, g8, g9, hh, hj, ho, hp, hu⟩ := bc8 (w := wc) s.out
           have hv := blk_frozen s.out
           obtain ⟨hx, hy⟩ := bc2 (w := wc) z.out
           have hz := blk_frozen z.out
           go_wp2_with (first | (go_at_call 48; (with_reducible refine (spec_l2Nodes.calls ap _ _ G _ _ I L aB _ ?Y ?Z ?aa ?ab bh.out).mono ?_); (case Y => exact Kd.C_below ag.out (bs HB.out)); (case Z => exact ah.out); (case aa => exact Kd.C_below ai.out (bs HB.out)); (case ab => exact aj.out); rintro e hA ⟨rfl, hb⟩; replace z := bb z hb rfl; replace s := bb s hb rfl; replace HB := hs HB hb; (try clear hb)))
           go_ret
           exact ⟨eqr, bs HB.out⟩
          ·rw [if_neg aV] at H
           have fY : decide (5 ≤ aB) = false := decide_eq_false aV
           clear aV
           by_cases aS : y = 2
           ·rw [if_pos aS] at H
            have fZ : (y == 2) = true := beq_iff_eq.mpr aS
            have f1 : (y != 2) = false := bne_eq_false_iff_eq.mpr aS
            clear aS
            replace H := Option.bind_eq_some_iff.mp H
            obtain ⟨aP, d4, H⟩ := H
            try dsimp -simprocs only at H
            have d5 := am d4
            clear d4
            by_cases aW : aP ≥ 7
            ·rw [if_pos aW] at H
             have f2 : decide (7 ≤ aP) = true := decide_eq_true aW
             clear aW
             obtain rfl := Option.some.inj H
             have hC := X.out
             have hD := T.out
             obtain ⟨hE, hF, hG, hH, hI, hJ, hK, hL⟩ := bc8 (w := wc) s.out
             have hM := blk_frozen s.out
             obtain ⟨hO, hP⟩ := bc2 (w := wc) z.out
             have hR := blk_frozen z.out
             go_wp2_with (first | (go_at_call 48; (with_reducible refine (spec_l2Nodes.calls ap _ _ G _ _ I L aB _ ?Y ?Z ?aa ?ab bh.out).mono ?_); (case Y => exact Kd.C_below ag.out (bs HB.out)); (case Z => exact ah.out); (case aa => exact Kd.C_below ai.out (bs HB.out)); (case ab => exact aj.out); rintro e d6 ⟨rfl, hb⟩; replace z := bb z hb rfl; replace s := bb s hb rfl; replace HB := hs HB hb; (try clear hb); obtain ⟨hT, hU, hV, hW, hX, hY, hZ, h0⟩ := bc8 (w := d6) s.out; have h1 := blk_frozen s.out; obtain ⟨h2, h3⟩ := bc2 (w := d6) z.out; have h4 := blk_frozen z.out) | (go_at_call 49; (with_reducible refine (spec_l2Edges.calls ap _ _ G _ _ I J aP _ ?Y ?Z ?aa ?ab d5.out).mono ?_); (case Y => exact Kd.C_below ag.out (bs HB.out)); (case Z => exact ah.out); (case aa => exact Kd.C_below ai.out (bs HB.out)); (case ab => exact aj.out); rintro e h5 ⟨rfl, hb⟩; replace z := bb z hb rfl; replace s := bb s hb rfl; replace HB := hs HB hb; (try clear hb)))
             go_ret
             exact ⟨eqr, bs HB.out⟩
            ·rw [if_neg aW] at H
             have f2 : decide (7 ≤ aP) = false := decide_eq_false aW
             clear aW
             obtain rfl := Option.some.inj H
             have h6 := X.out
             have h7 := T.out
             obtain ⟨h8, h9, ia, ib, ic, ie, ig, ih⟩ := bc8 (w := wc) s.out
             have ii := blk_frozen s.out
             obtain ⟨ij, ik⟩ := bc2 (w := wc) z.out
             have il := blk_frozen z.out
             go_wp2_with (first | (go_at_call 48; (with_reducible refine (spec_l2Nodes.calls ap _ _ G _ _ I L aB _ ?Y ?Z ?aa ?ab bh.out).mono ?_); (case Y => exact Kd.C_below ag.out (bs HB.out)); (case Z => exact ah.out); (case aa => exact Kd.C_below ai.out (bs HB.out)); (case ab => exact aj.out); rintro e d7 ⟨rfl, hb⟩; replace z := bb z hb rfl; replace s := bb s hb rfl; replace HB := hs HB hb; (try clear hb); obtain ⟨im, io, ip, iq, ir, it, iu, iv⟩ := bc8 (w := d7) s.out; have iw := blk_frozen s.out; obtain ⟨ix, iy⟩ := bc2 (w := d7) z.out; have iz := blk_frozen z.out) | (go_at_call 49; (with_reducible refine (spec_l2Edges.calls ap _ _ G _ _ I J aP _ ?Y ?Z ?aa ?ab d5.out).mono ?_); (case Y => exact Kd.C_below ag.out (bs HB.out)); (case Z => exact ah.out); (case aa => exact Kd.C_below ai.out (bs HB.out)); (case ab => exact aj.out); rintro e iA ⟨rfl, hb⟩; replace z := bb z hb rfl; replace s := bb s hb rfl; replace HB := hs HB hb; (try clear hb)))
             go_ret
             exact ⟨eqr, bs HB.out⟩
           ·rw [if_neg aS] at H
            have fZ : (y == 2) = false := beq_eq_false_iff_ne.mpr aS
            have f1 : (y != 2) = true := bne_iff_ne.mpr aS
            obtain rfl := Option.some.inj H
            have iB := X.out
            have iC := T.out
            obtain ⟨iD, iE, iF, iG, iH, iI, iJ, iK⟩ := bc8 (w := wc) s.out
            have iL := blk_frozen s.out
            obtain ⟨iM, iN⟩ := bc2 (w := wc) z.out
            have iO := blk_frozen z.out
            go_wp2_with (first | (go_at_call 48; (with_reducible refine (spec_l2Nodes.calls ap _ _ G _ _ I L aB _ ?Y ?Z ?aa ?ab bh.out).mono ?_); (case Y => exact Kd.C_below ag.out (bs HB.out)); (case Z => exact ah.out); (case aa => exact Kd.C_below ai.out (bs HB.out)); (case ab => exact aj.out); rintro e f3 ⟨rfl, hb⟩; replace z := bb z hb rfl; replace s := bb s hb rfl; replace HB := hs HB hb; (try clear hb); obtain ⟨iP, iQ, iR, iS, iT, iU, iV, iW⟩ := bc8 (w := f3) s.out; have iX := blk_frozen s.out))
            go_ret
            exact ⟨eqr, bs HB.out⟩
         ·rw [if_neg aR] at H
          have fW : (y == 1) = false := beq_eq_false_iff_ne.mpr aR
          have fX : (y != 1) = true := bne_iff_ne.mpr aR
          by_cases aT : y = 2
          ·rw [if_pos aT] at H
           have f4 : (y == 2) = true := beq_iff_eq.mpr aT
           have f5 : (y != 2) = false := bne_eq_false_iff_eq.mpr aT
           clear aT
           replace H := Option.bind_eq_some_iff.mp H
           obtain ⟨aQ, d8, H⟩ := H
           try dsimp -simprocs only at H
           have d9 := am d8
           clear d8
           by_cases aX : aQ ≥ 7
           ·rw [if_pos aX] at H
            have f6 : decide (7 ≤ aQ) = true := decide_eq_true aX
            clear aX
            obtain rfl := Option.some.inj H
            have iY := X.out
            have iZ := T.out
            obtain ⟨i0, i1, i2, i3, i4, i5, i6, i7⟩ := bc8 (w := wc) s.out
            have i8 := blk_frozen s.out
            obtain ⟨i9, ja⟩ := bc2 (w := wc) z.out
            have jb := blk_frozen z.out
            go_wp2_with (first | (go_at_call 49; (with_reducible refine (spec_l2Edges.calls ap _ _ G _ _ I J aQ _ ?Y ?Z ?aa ?ab d9.out).mono ?_); (case Y => exact Kd.C_below ag.out (bs HB.out)); (case Z => exact ah.out); (case aa => exact Kd.C_below ai.out (bs HB.out)); (case ab => exact aj.out); rintro e jc ⟨rfl, hb⟩; replace z := bb z hb rfl; replace s := bb s hb rfl; replace HB := hs HB hb; (try clear hb)))
            go_ret
            exact ⟨eqr, bs HB.out⟩
           ·rw [if_neg aX] at H
            have f6 : decide (7 ≤ aQ) = false := decide_eq_false aX
            clear aX
            obtain rfl := Option.some.inj H
            have jd := X.out
            have je := T.out
            obtain ⟨jf, jg, jh, ji, jj, jk, jl, jm⟩ := bc8 (w := wc) s.out
            have jn := blk_frozen s.out
            obtain ⟨jo, jp⟩ := bc2 (w := wc) z.out
            have jq := blk_frozen z.out
            go_wp2_with (first | (go_at_call 49; (with_reducible refine (spec_l2Edges.calls ap _ _ G _ _ I J aQ _ ?Y ?Z ?aa ?ab d9.out).mono ?_); (case Y => exact Kd.C_below ag.out (bs HB.out)); (case Z => exact ah.out); (case aa => exact Kd.C_below ai.out (bs HB.out)); (case ab => exact aj.out); rintro e jr ⟨rfl, hb⟩; replace z := bb z hb rfl; replace s := bb s hb rfl; replace HB := hs HB hb; (try clear hb)))
            go_ret
            exact ⟨eqr, bs HB.out⟩
          ·rw [if_neg aT] at H
           have f4 : (y == 2) = false := beq_eq_false_iff_ne.mpr aT
           have f5 : (y != 2) = true := bne_iff_ne.mpr aT
           obtain rfl := Option.some.inj H
           have js := X.out
           have jt := T.out
           obtain ⟨ju, jv, jw, jx, jy, jz, jA, jB⟩ := bc8 (w := wc) s.out
           have jC := blk_frozen s.out
           go_wp2
           go_ret
           exact ⟨eqr, bs HB.out⟩

end Go.Proofs.Ytkbamcicbofjbaa.QFnStoreNarrow
