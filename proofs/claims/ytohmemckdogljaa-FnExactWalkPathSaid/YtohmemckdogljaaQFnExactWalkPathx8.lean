/- Contracts of the Go functions that this law reaches: each does what its plain Lean function says. No condition. -/
import Derived.Test.YtohmemckdogljaaQFnExactWalkPathx0
import Derived.Test.YtohmemckdogljaaQFnExactWalkPathx2
import Derived.Test.YtohmemckdogljaaQFnExactWalkPathx4
import Derived.Test.YtohmemckdogljaaQFnExactWalkPathx6
import Derived.Test.YtohmemckdogljaaQFnExactWalkPathx7
namespace Go.Proofs.Ytohmemckdogljaa.QFnExactWalkPath
open Go.RowKit Go.Proofs.YtohmemckdogljaaW.PrintWords Go.Proofs.YtohmemckdogljaaW.PrintLast Go.Proofs.YtohmemckdogljaaW.PrintMore Go.Proofs.Ytohmemckdogljaa.Bl
attribute [local go_sem] max2_int min2_int max_two min_two max_three min_three max_four min_four   -- for this text's walks alone
set_option linter.unusedVariables false
set_option linter.unusedSimpArgs false
set_option maxHeartbeats 8000000
set_option maxRecDepth 100000

/-! ### spec_WalkPath: function 17 -/
mutual
def spec_WalkPath.j0 : Nat → Bool → List (S36) → List (S56) → Int → Int → Int → Int → Option ((List (S36)) × Bool)
 | 0, _, _, _, _, _, _, _ => none
 | k + 1, J, z, D, G, I, L, O => if J = true then (some ((([] : List (S36))), false)) else ((spec_l3Dist.f k z D L O).bind fun s => ((spec_l2At.f k z D G I).bind fun y => (if 0 ≤ y then (if y < (s.length : Int) then (if (rd s y) < 0 then (some ((([] : List (S36))), false)) else (spec_WalkPath.l0 k s (rd s y) (([(⟨G, I⟩ : S36)] : List (S36))) z D)) else (none)) else (none))))
def spec_WalkPath.l0 : Nat → List Int → Int → List (S36) → List (S36) → List (S56) → Option ((List (S36)) × Bool)
 | 0, _, _, _, _, _ => none
 | k + 1, G, y, s, z, D => if y > 0 then (if 0 ≤ (wrap64 ((s.length : Int) - 1)) then (if (wrap64 ((s.length : Int) - 1)) < (s.length : Int) then ((spec_l2Near.f k z D ((rd_T36 s (wrap64 ((s.length : Int) - 1))).f0) ((rd_T36 s (wrap64 ((s.length : Int) - 1))).f1)).bind fun I => (spec_WalkPath.l1 k G y s I 0 z D)) else (none)) else (none)) else (some (s, true))
def spec_WalkPath.l1 : Nat → List Int → Int → List (S36) → List (S36) → Int → List (S36) → List (S56) → Option ((List (S36)) × Bool)
 | 0, _, _, _, _, _, _, _ => none
 | k + 1, z, D, G, y, s, I, J => if 0 ≤ s then (if s < (y.length : Int) then ((spec_l2At.f k I J ((rd_T36 y s).f0) ((rd_T36 y s).f1)).bind fun L => (if 0 ≤ L then (if L < (z.length : Int) then (if (rd z L) = (wrap64 (D - 1)) then (if G.length < 8796093022208 then (spec_WalkPath.l0 k z (wrap64 (D - 1)) (G ++ [(⟨(rd_T36 y s).f0, (rd_T36 y s).f1⟩ : S36)]) I J) else (none)) else (spec_WalkPath.l1 k z D G y (wrap64 (s + 1)) I J)) else (none)) else (none))) else (none)) else (none)
end
def spec_WalkPath.f (k : Nat) (s : List (S36)) (y : List (S56)) (z : Int) (D : Int) (G : Int) (I : Int) : Option ((List (S36)) × Bool) := (spec_GraphOk.f k s y).bind fun J => (if J = true then ((spec_l2At.f k s y z D).bind fun L => (if L < 0 then (spec_WalkPath.j0 k true s y z D G I) else ((spec_l2At.f k s y G I).bind fun O => (spec_WalkPath.j0 k (decide (O < 0)) s y z D G I)))) else (spec_WalkPath.j0 k true s y z D G I))
def spec_WalkPath.T9 : Bool × List (List Nat × List Nat) := (true, [([], []), ([], []), ([], []), ([2], [2]), ([3], [3]), ([1, 4], [1, 4]), ([5], [5]), ([0, 6], [0, 6]), ([7, 7, 0, 1, 2, 3, 4, 5, 6, 7], [7])])
def spec_WalkPath.B9 : List Nat := [0, 0, 0, 4, 12, 30, 62, 127, 255]
theorem spec_WalkPath.tab9 : rtab .any (opsOf Try.f17 9) = spec_WalkPath.T9 := by kernel_rfl
theorem spec_WalkPath.bits9 : waitsOk spec_WalkPath.T9.2 spec_WalkPath.B9 = true := by kernel_rfl
def spec_WalkPath.T11 : Bool × List (List Nat × List Nat) := (true, [([], []), ([], []), ([], []), ([], []), ([2, 3], [2, 3]), ([4], [4]), ([1, 5], [1, 5]), ([0, 6], [0, 6]), ([7], [7]), ([], []), ([9], [9]), ([8, 10], [8, 10])])
def spec_WalkPath.B11 : List Nat := [0, 0, 0, 0, 12, 28, 62, 127, 255, 0, 512, 2047]
theorem spec_WalkPath.tab11 : rtab .any (opsOf Try.f17 11) = spec_WalkPath.T11 := by kernel_rfl
theorem spec_WalkPath.bits11 : waitsOk spec_WalkPath.T11.2 spec_WalkPath.B11 = true := by kernel_rfl
theorem spec_WalkPath.calls (k : Nat) (ak : Option Addr) (al : Nat) (G : List (S36)) (an : Option Addr) (ao : Nat) (I : List (S56)) (O : Int) (T : Int) (ae : Int) (af : Int) (r1 : List (S36)) (r2 : Bool) (w : World) (cE : Kd.C k36 w ak G.length G) (cF : G.length ≤ al) (cG : Kd.C k56 w an I.length I) (cH : I.length ≤ ao) (h : spec_WalkPath.f k G I O T ae af = some (r1, r2)) :
  Calls Try.prog 17 #[.agg #[.slice ak G.length al, .slice an I.length ao], .agg #[.int .i64 O, .int .i64 T], .agg #[.int .i64 ae, .int .i64 af]] w fun e w' => ∃ cI : Value, e = .returned (.tuple #[cI, .bool r2]) ∧ Kd.R k36 36 w' w.heap.size (fun _ => True) cI r1 ∧ Below w.heap.size w w' := by
 have hu34 := Try.underlying34
 have hu36 := Try.underlying36
 have aw := am cE
 have ax := am cF
 clear cE cF
 have ay := am cG
 have az := am cH
 clear cG cH
 have HB := am (Below.refl w.heap.size w)
 have H := h; unfold spec_WalkPath.f at H
 clear h
 have bN := am H
 clear H
 go_enter Try.func17, Try.ntmps17
 go_upto_region 1 with (first | ((with_reducible refine gd 3 rfl ?_); refine bx 3 (cs := #[.slice ak G.length al, .slice an I.length ao]) (t := 34) ?_; intro aC hg w5 hbox hb; have s := am hbox; have ez := gwb HB hg; replace HB := hs HB hb; clear hb hbox hg) | ((with_reducible refine gd 4 rfl ?_); refine bx 4 (cs := #[.int .i64 O, .int .i64 T]) (t := 36) ?_; intro ar hg w6 hbox hb; have z := am hbox; have eA := gwb HB hg; replace HB := hs HB hb; have a9 := nq s hg; have ba := nq' s hg; replace s := bb s hb rfl; clear hb hbox hg) | ((with_reducible refine gd 5 rfl ?_); refine bx 5 (cs := #[.int .i64 ae, .int .i64 af]) (t := 36) ?_; intro au hg w7 hbox hb; have D := am hbox; have eB := gwb HB hg; replace HB := hs HB hb; have bc := nq s hg; have be := nq' s hg; replace s := bb s hb rfl; have bw := nq z hg; have bz := nq' z hg; replace z := bb z hb rfl; clear hb hbox hg))
 (try simp only [Act.put, List.setIfInBounds_toArray, List.set_cons_zero, List.set_cons_succ])
 go_cut [27] (fun dZ wc => ∃ (kq : Nat) (bA : Bool), dZ = .bool bA ∧ Aside0 (spec_WalkPath.j0 kq bA G I O T ae af = some (r1, r2)) ∧ Aside0 (kq ≤ k) ∧ Aside0 (wc.heap[aC]? = some (.cells #[(.slice ak G.length al), (.slice an I.length ao)] 34 (0, 0))) ∧ Aside0 (wc.heap[ar]? = some (.cells #[.int .i64 O, .int .i64 T] 36 (0, 0))) ∧ Aside0 (wc.heap[au]? = some (.cells #[.int .i64 ae, .int .i64 af] 36 (0, 0))) ∧ Aside0 (Below w.heap.size w wc))
 case first =>
  have H := bN.out
  clear bN
  replace H := Option.bind_eq_some_iff.mp H
  obtain ⟨d0, cJ, H⟩ := H
  try dsimp -simprocs only at H
  have A8 := am cJ
  clear cJ
  by_cases c9 : d0 = true
  ·subst c9
   replace H : ((spec_l2At.f k G I O T).bind fun aQ => (if aQ < 0 then (spec_WalkPath.j0 k true G I O T ae af) else ((spec_l2At.f k G I ae af).bind fun bB => (spec_WalkPath.j0 k (decide (bB < 0)) G I O T ae af)))) = some (r1, r2) := by rw [if_pos rfl] at H; exact H
   replace H := Option.bind_eq_some_iff.mp H
   obtain ⟨aQ, cK, H⟩ := H
   try dsimp -simprocs only at H
   have cL := am cK
   clear cK
   by_cases aD : aQ < 0
   ·rw [if_pos aD] at H
    have aJ : decide (aQ < 0) = true := decide_eq_true aD
    clear aD
    (first | rw [aJ] | (simp only [i64_w, i32_w]; rw [aJ]) | skip)
    have H' := am H
    clear H
    have eC := a9.out
    have eD := ba.out
    have eE := bc.out
    have eF := be.out
    obtain ⟨bO, bP⟩ := bc2 (w := w7) s.out
    have bQ := blk_frozen s.out
    go_wp2_with (first | ((with_reducible refine gc 33 rfl ?_); refine gl 14 Try.func33 #[.agg #[.slice ak G.length al, .slice an I.length ao]] ?_; (with_reducible refine (spec_GraphOk.calls k _ _ G _ _ I true _ ?aa ?ab ?ac ?ad A8.out).mono ?_); (case aa => exact Kd.C_below aw.out (bs HB.out)); (case ab => exact ax.out); (case ac => exact Kd.C_below ay.out (bs HB.out)); (case ad => exact az.out); rintro e cM ⟨rfl, hb⟩; refine ⟨_, rfl, ?_⟩; replace s := bb s hb rfl; replace z := bb z hb rfl; replace D := bb D hb rfl; replace HB := hs HB hb; (try clear hb); obtain ⟨bR, bS⟩ := bc2 (w := cM) s.out; have bT := blk_frozen s.out; have eG := bw.out; have eH := bz.out; obtain ⟨bU, bV⟩ := bc2 (w := cM) z.out; have bW := blk_frozen z.out) | (go_at_call 62; (with_reducible refine (spec_l2At.calls k _ _ G _ _ I O T aQ _ ?aa ?ab ?ac ?ad cL.out).mono ?_); (case aa => exact Kd.C_below aw.out (bs HB.out)); (case ab => exact ax.out); (case ac => exact Kd.C_below ay.out (bs HB.out)); (case ad => exact az.out); rintro e eI ⟨rfl, hb⟩; replace s := bb s hb rfl; replace z := bb z hb rfl; replace D := bb D hb rfl; replace HB := hs HB hb; (try clear hb)))
    go_meet
    case rel => exact ⟨_, (true), eqs, H', ⟨by first | omega | exact Nat.le_refl _⟩, ⟨bf s.out⟩, ⟨bf z.out⟩, ⟨bf D.out⟩, ⟨bs HB.out⟩⟩
   ·rw [if_neg aD] at H
    have aJ : decide (aQ < 0) = false := decide_eq_false aD
    clear aD
    (first | rw [aJ] | (simp only [i64_w, i32_w]; rw [aJ]) | skip)
    replace H := Option.bind_eq_some_iff.mp H
    obtain ⟨bB, cN, H⟩ := H
    try dsimp -simprocs only at H
    have d1 := am cN
    clear cN
    have H' := am H
    clear H
    have eJ := a9.out
    have eK := ba.out
    have eL := bc.out
    have eM := be.out
    obtain ⟨bX, bY⟩ := bc2 (w := w7) s.out
    have bZ := blk_frozen s.out
    go_wp2_with (first | ((with_reducible refine gc 33 rfl ?_); refine gl 14 Try.func33 #[.agg #[.slice ak G.length al, .slice an I.length ao]] ?_; (with_reducible refine (spec_GraphOk.calls k _ _ G _ _ I true _ ?aa ?ab ?ac ?ad A8.out).mono ?_); (case aa => exact Kd.C_below aw.out (bs HB.out)); (case ab => exact ax.out); (case ac => exact Kd.C_below ay.out (bs HB.out)); (case ad => exact az.out); rintro e cO ⟨rfl, hb⟩; refine ⟨_, rfl, ?_⟩; replace s := bb s hb rfl; replace z := bb z hb rfl; replace D := bb D hb rfl; replace HB := hs HB hb; (try clear hb); obtain ⟨b0, b1⟩ := bc2 (w := cO) s.out; have b2 := blk_frozen s.out; have eN := bw.out; have eO := bz.out; obtain ⟨b3, b4⟩ := bc2 (w := cO) z.out; have b5 := blk_frozen z.out) | (go_at_call 62; (with_reducible refine (spec_l2At.calls k _ _ G _ _ I O T aQ _ ?aa ?ab ?ac ?ad cL.out).mono ?_); (case aa => exact Kd.C_below aw.out (bs HB.out)); (case ab => exact ax.out); (case ac => exact Kd.C_below ay.out (bs HB.out)); (case ad => exact az.out); rintro e cP ⟨rfl, hb⟩; replace s := bb s hb rfl; replace z := bb z hb rfl; replace D := bb D hb rfl; replace HB := hs HB hb; (try clear hb); obtain ⟨b6, b7⟩ := bc2 (w := cP) s.out; have b8 := blk_frozen s.out; obtain ⟨b9, ce⟩ := bc2 (w := cP) D.out; have cf := blk_frozen D.out) | (go_at_call 62; (with_reducible refine (spec_l2At.calls k _ _ G _ _ I ae af bB _ ?aa ?ab ?ac ?ad d1.out).mono ?_); (case aa => exact Kd.C_below aw.out (bs HB.out)); (case ab => exact ax.out); (case ac => exact Kd.C_below ay.out (bs HB.out)); (case ad => exact az.out); rintro e eP ⟨rfl, hb⟩; replace s := bb s hb rfl; replace z := bb z hb rfl; replace D := bb D hb rfl; replace HB := hs HB hb; (try clear hb)))
    go_meet
    case rel => exact ⟨_, (decide (bB < 0)), eqs, H', ⟨by first | omega | exact Nat.le_refl _⟩, ⟨bf s.out⟩, ⟨bf z.out⟩, ⟨bf D.out⟩, ⟨bs HB.out⟩⟩
  ·replace c9 := Bool.eq_false_iff.mpr c9
   subst c9
   have H1 : (spec_WalkPath.j0 k true G I O T ae af) = some (r1, r2) := by rw [if_neg (show ¬ (false = true) by decide)] at H; exact H
   clear H
   have H := H1
   clear H1
   have H' := am H
   clear H
   have eQ := a9.out
   have eR := ba.out
   have eS := bc.out
   have eT := be.out
   obtain ⟨cg, ch⟩ := bc2 (w := w7) s.out
   have ci := blk_frozen s.out
   go_wp2_with (first | ((with_reducible refine gc 33 rfl ?_); refine gl 14 Try.func33 #[.agg #[.slice ak G.length al, .slice an I.length ao]] ?_; (with_reducible refine (spec_GraphOk.calls k _ _ G _ _ I false _ ?aa ?ab ?ac ?ad A8.out).mono ?_); (case aa => exact Kd.C_below aw.out (bs HB.out)); (case ab => exact ax.out); (case ac => exact Kd.C_below ay.out (bs HB.out)); (case ad => exact az.out); rintro e eU ⟨rfl, hb⟩; refine ⟨_, rfl, ?_⟩; replace s := bb s hb rfl; replace z := bb z hb rfl; replace D := bb D hb rfl; replace HB := hs HB hb; (try clear hb)))
   go_meet
   case rel => exact ⟨_, (true), eqs, H', ⟨by first | omega | exact Nat.le_refl _⟩, ⟨bf s.out⟩, ⟨bf z.out⟩, ⟨bf D.out⟩, ⟨bs HB.out⟩⟩
 case rest =>
  clear bN
  try clear c1
  try clear c2
  try clear p2
  try clear c3
  try clear c9
  try clear aD
  try clear aJ
  try clear cQ
  try clear cR
  try clear cS
  try clear cT
  try clear cU
  try clear cV
  try clear cW
  try clear cX
  try clear bO bP
  try clear bR bS
  try clear bU bV
  try clear bX bY
  try clear b0 b1
  try clear b3 b4
  try clear b6 b7
  try clear b9 ce
  try clear cg ch
  try clear bQ
  try clear bT
  try clear bW
  try clear bZ
  try clear b2
  try clear b5
  try clear b8
  try clear cf
  try clear ci
  obtain ⟨kq, bA, rfl, HA, bC, s, z, D, HB⟩ := hcut
  cases kq with
  | zero => exact absurd HA.out (by simp [spec_WalkPath.j0])
  | succ aA =>
   have H := HA.out
   clear HA
   simp only [spec_WalkPath.j0] at H
   by_cases aZ : bA = true
   ·subst aZ
    replace H : (some ((([] : List (S36))), false)) = some (r1, r2) := by rw [if_pos rfl] at H; exact H
    obtain ⟨d2, cj⟩ : ∃ y_ : List (S36), y_ = (([] : List (S36))) := ⟨_, rfl⟩
    replace H : (some (d2, false)) = some (r1, r2) := by first | (rw [cj]; exact H) | exact H
    have cY := am cj
    clear cj
    simp only [Option.some.injEq, Prod.mk.injEq] at H
    obtain ⟨rfl, rfl⟩ := H
    go_wp2_with (first | ((with_reducible refine gd 28 rfl ?_); refine Kd.R_lit k36 _ 36 ?hg (N := 28) ?hd (xs := ([] : List (S36))) (inner := []) (ok := fun _ => True) (okp := fun _ => True) ?hr ?hp (fun _ hk => hk) trivial (Below.refl _ _) (Nat.le_refl _) (by simp) ?_; (case hd => rfl); (case hg => rfl); (case hr => first | (go_simp; done) | (go_simp; rfl)); (case hp => exact (Reps.none _ _)); intro eV eW bg hb hg_ hnew_; clear hg_ hnew_; (first | rw [← cY.out] at bg | (simp only [Int.reduceToNat] at bg; rw [← cY.out] at bg)); have d3 := am (Kd.R_lower (Kd.R_newB (Kd.R_newB bg (g := ar) (o := .cells #[.int .i64 O, .int .i64 T] 36 (0, 0)) (bf z.out)) (g := au) (o := .cells #[.int .i64 ae, .int .i64 af] 36 (0, 0)) (bf D.out)) (below_size (bs HB.out))); replace s := bb s hb rfl; replace z := bb z hb rfl; replace D := bb D hb rfl; replace HB := hs HB hb; clear hb bg))
    go_ret2
    exact ⟨_, eqr, by (with_reducible repeat (first | apply Kd.R_alloc | apply Kd.R_drewN | apply Kd.R_drew)); exact Kd.R_mono d3.out (fun _ hk => trivial), bs HB.out⟩
   ·replace aZ := Bool.eq_false_iff.mpr aZ
    subst aZ
    have H1 : ((spec_l3Dist.f aA G I ae af).bind fun L => ((spec_l2At.f aA G I O T).bind fun ah => (if 0 ≤ ah then (if ah < (L.length : Int) then (if (rd L ah) < 0 then (some ((([] : List (S36))), false)) else (spec_WalkPath.l0 aA L (rd L ah) (([(⟨O, T⟩ : S36)] : List (S36))) G I)) else (none)) else (none)))) = some (r1, r2) := by rw [if_neg (show ¬ (false = true) by decide)] at H; exact H
    clear H
    have H := H1
    clear H1
    replace H := Option.bind_eq_some_iff.mp H
    obtain ⟨L, cZ, H⟩ := H
    try dsimp -simprocs only at H
    have c8 := am cZ
    clear cZ
    replace H := Option.bind_eq_some_iff.mp H
    obtain ⟨ah, da, H⟩ := H
    try dsimp -simprocs only at H
    have db := am da
    clear da
    by_cases a6 : 0 ≤ ah
    ·rw [if_pos a6] at H
     have dc : decide (0 ≤ ah) = true := decide_eq_true a6
     clear a6
     by_cases a7 : ah < (L.length : Int)
     ·rw [if_pos a7] at H
      have dd : decide (ah < (L.length : Int)) = true := decide_eq_true a7
      clear a7
      by_cases aK : (rd L ah) < 0
      ·rw [if_pos aK] at H
       have ck : decide ((rd L ah) < 0) = true := decide_eq_true aK
       clear aK
       obtain ⟨d4, cl⟩ : ∃ y_ : List (S36), y_ = (([] : List (S36))) := ⟨_, rfl⟩
       replace H : (some (d4, false)) = some (r1, r2) := by first | (rw [cl]; exact H) | exact H
       have de := am cl
       clear cl
       simp only [Option.some.injEq, Prod.mk.injEq] at H
       obtain ⟨rfl, rfl⟩ := H
       have eX := a9.out
       have eY := ba.out
       have eZ := bc.out
       have e0 := be.out
       obtain ⟨df, dg⟩ := bc2 (w := wc) s.out
       have dh := blk_frozen s.out
       have e1 := bz.out
       have e2 := bw.out
       obtain ⟨di, dj⟩ := bc2 (w := wc) D.out
       have dk := blk_frozen D.out
       go_wp2_with (first | ((with_reducible refine gc 63 rfl ?_); refine gl 31 Try.func63 #[.agg #[.slice ak G.length al, .slice an I.length ao], .agg #[.int .i64 ae, .int .i64 af]] ?_; (with_reducible refine (spec_l3Dist.calls aA _ _ G _ _ I ae af L _ ?aa ?ab ?ac ?ad c8.out).mono ?_); (case aa => exact Kd.C_below aw.out (bs HB.out)); (case ab => exact ax.out); (case ac => exact Kd.C_below ay.out (bs HB.out)); (case ad => exact az.out); rintro e dl ⟨d5, rfl, aE, hb⟩; refine ⟨_, rfl, ?_⟩; have av := am (Kd.R_lower aE (below_size (bs HB.out))); replace s := bb s hb rfl; replace z := bb z hb rfl; replace D := bb D hb rfl; replace HB := hs HB hb; (try clear aE hb); obtain ⟨dm, dp⟩ := bc2 (w := dl) s.out; have dq := blk_frozen s.out; obtain ⟨dr, dt⟩ := bc2 (w := dl) z.out; have du := blk_frozen z.out) | ((with_reducible refine gc 62 rfl ?_); refine gl 35 Try.func62 #[.agg #[.slice ak G.length al, .slice an I.length ao], .agg #[.int .i64 O, .int .i64 T]] ?_; (with_reducible refine (spec_l2At.calls aA _ _ G _ _ I O T ah _ ?aa ?ab ?ac ?ad db.out).mono ?_); (case aa => exact Kd.C_below aw.out (bs HB.out)); (case ab => exact ax.out); (case ac => exact Kd.C_below ay.out (bs HB.out)); (case ad => exact az.out); rintro e e3 ⟨rfl, hb⟩; refine ⟨_, rfl, ?_⟩; replace av := rb av hb; replace s := bb s hb rfl; replace z := bb z hb rfl; replace D := bb D hb rfl; replace HB := hs HB hb; (try clear hb); obtain ⟨e4, e5, d6⟩ := Kd.R_slice av.out; subst d6; have aG : 0 ≤ (ah : Int) := oda; have aH : ah < (L.length : Int) := oda; obtain ⟨aR, cm, cn⟩ := Kd.at_int (Kd.R_reads' av.out).2.2 ah aG aH; cases cm; replace aG := eq_true aG; replace aH := eq_true aH) | ((with_reducible refine gd 40 rfl ?_); refine Kd.R_lit k36 _ 36 ?hg (N := 40) ?hd (xs := ([] : List (S36))) (inner := []) (ok := fun _ => True) (okp := fun _ => True) ?hr ?hp (fun _ hk => hk) trivial (Below.refl _ _) (Nat.le_refl _) (by simp) ?_; (case hd => rfl); (case hg => rfl); (case hr => first | (go_simp; done) | (go_simp; rfl)); (case hp => exact (Reps.none _ _)); intro e6 e7 bh hb hg_ hnew_; clear hg_ hnew_; (first | rw [← de.out] at bh | (simp only [Int.reduceToNat] at bh; rw [← de.out] at bh)); replace av := rb av hb; have d7 := am (Kd.R_lower (Kd.R_newB (Kd.R_newB bh (g := ar) (o := .cells #[.int .i64 O, .int .i64 T] 36 (0, 0)) (bf z.out)) (g := au) (o := .cells #[.int .i64 ae, .int .i64 af] 36 (0, 0)) (bf D.out)) (below_size (bs HB.out))); replace s := bb s hb rfl; replace z := bb z hb rfl; replace D := bb D hb rfl; replace HB := hs HB hb; clear hb bh))
       go_ret2
       exact ⟨_, eqr, by (with_reducible repeat (first | apply Kd.R_alloc | apply Kd.R_drewN | apply Kd.R_drew)); exact Kd.R_mono d7.out (fun _ hk => trivial), bs HB.out⟩
      ·rw [if_neg aK] at H
       have ck : decide ((rd L ah) < 0) = false := decide_eq_false aK
       clear aK
       obtain ⟨dv, co⟩ : ∃ y_ : List (S36), y_ = (([(⟨O, T⟩ : S36)] : List (S36))) := ⟨_, rfl⟩
       replace H : (spec_WalkPath.l0 aA L (rd L ah) dv G I) = some (r1, r2) := by first | (rw [co]; exact H) | exact H
       have dw := am co
       clear co
       have H' := am H
       clear H
       have e8 := a9.out
       have e9 := ba.out
       have fa := bc.out
       have fb := be.out
       obtain ⟨dx, dy⟩ := bc2 (w := wc) s.out
       have dz := blk_frozen s.out
       have fc := bz.out
       have fd := bw.out
       obtain ⟨dA, dB⟩ := bc2 (w := wc) D.out
       have dC := blk_frozen D.out
       go_wp2_with (first | ((with_reducible refine gc 63 rfl ?_); refine gl 31 Try.func63 #[.agg #[.slice ak G.length al, .slice an I.length ao], .agg #[.int .i64 ae, .int .i64 af]] ?_; (with_reducible refine (spec_l3Dist.calls aA _ _ G _ _ I ae af L _ ?aa ?ab ?ac ?ad c8.out).mono ?_); (case aa => exact Kd.C_below aw.out (bs HB.out)); (case ab => exact ax.out); (case ac => exact Kd.C_below ay.out (bs HB.out)); (case ad => exact az.out); rintro e dD ⟨d5, rfl, aE, hb⟩; refine ⟨_, rfl, ?_⟩; have av := am (Kd.R_lower aE (below_size (bs HB.out))); replace s := bb s hb rfl; replace z := bb z hb rfl; replace D := bb D hb rfl; replace HB := hs HB hb; (try clear aE hb); obtain ⟨dE, dF⟩ := bc2 (w := dD) s.out; have dG := blk_frozen s.out; obtain ⟨dH, dI⟩ := bc2 (w := dD) z.out; have dJ := blk_frozen z.out) | ((with_reducible refine gc 62 rfl ?_); refine gl 35 Try.func62 #[.agg #[.slice ak G.length al, .slice an I.length ao], .agg #[.int .i64 O, .int .i64 T]] ?_; (with_reducible refine (spec_l2At.calls aA _ _ G _ _ I O T ah _ ?aa ?ab ?ac ?ad db.out).mono ?_); (case aa => exact Kd.C_below aw.out (bs HB.out)); (case ab => exact ax.out); (case ac => exact Kd.C_below ay.out (bs HB.out)); (case ad => exact az.out); rintro e w64 ⟨rfl, hb⟩; refine ⟨_, rfl, ?_⟩; replace av := rb av hb; replace s := bb s hb rfl; replace z := bb z hb rfl; replace D := bb D hb rfl; replace HB := hs HB hb; (try clear hb); obtain ⟨fe, dK, d8⟩ := Kd.R_slice av.out; subst d8; have aG : 0 ≤ (ah : Int) := oda; have aH : ah < (L.length : Int) := oda; obtain ⟨aR, cm, cn⟩ := Kd.at_int (Kd.R_reads' av.out).2.2 ah aG aH; cases cm; replace aG := eq_true aG; replace aH := eq_true aH; obtain ⟨dL, dM⟩ := bc2 (w := w64) z.out; have dN := blk_frozen z.out) | ((with_reducible refine gd 42 rfl ?_); refine Kd.R_lit k36 _ 36 ?hg (N := 42) ?hd (xs := ([(⟨O, T⟩ : S36)] : List (S36))) (inner := [.int .i64 O, .int .i64 T]) (ok := fun _ => True) (okp := fun _ => True) ?hr ?hp (fun _ hk => hk) trivial (Below.refl _ _) (Nat.le_refl _) (by simp) ?_; (case hd => rfl); (case hg => rfl); (case hr => first | (go_simp; done) | (go_simp; rfl)); (case hp => exact (Reps.c2 (show Kd.M k36 _ _ _ (⟨O, T⟩ : S36) [.int .i64 O, .int .i64 T] from (k36_mkM _ _ _ (⟨O, T⟩ : S36) )) (Reps.none _ _))); intro ff fg bi hb hg_ hnew_; clear hg_ hnew_; (first | rw [← dw.out] at bi | (simp only [Int.reduceToNat] at bi; rw [← dw.out] at bi)); replace av := rb av hb; have d9 := am (Kd.R_lower (Kd.R_newB (Kd.R_newB bi (g := ar) (o := .cells #[.int .i64 O, .int .i64 T] 36 (0, 0)) (bf z.out)) (g := au) (o := .cells #[.int .i64 ae, .int .i64 af] 36 (0, 0)) (bf D.out)) (below_size (bs HB.out))); replace s := bb s hb rfl; replace z := bb z hb rfl; replace D := bb D hb rfl; replace HB := hs HB hb; clear hb bi))
       go_loopg [9, 10] aA (fun kq v9 ea w' => ∃ (aq : Int) (Z : List (S36)), v9 = .int .i64 aq ∧ Aside0 (spec_WalkPath.l0 kq L aq Z G I = some (r1, r2)) ∧ Aside0 (kq ≤ aA) ∧ Aside0 (Kd.R (Kd.int .i64) 3 w' w.heap.size (fun _ => True) (.slice (some aR) L.length dK) L) ∧ Aside0 (Kd.R k36 36 w' w.heap.size (fun k_ => k_ ≠ ar ∧ k_ ≠ au) ea Z) ∧ Aside0 (w'.heap[aC]? = some (.cells #[(.slice ak G.length al), (.slice an I.length ao)] 34 (0, 0))) ∧ Aside0 (w'.heap[ar]? = some (.cells #[.int .i64 O, .int .i64 T] 36 (0, 0))) ∧ Aside0 (w'.heap[au]? = some (.cells #[.int .i64 ae, .int .i64 af] 36 (0, 0))) ∧ Aside0 (Below w.heap.size w w'))
       case atStart => exact ⟨(rd L ah), (dv), eqs, H', ⟨Nat.le_refl _⟩, ⟨rl av.out⟩, ⟨by (with_reducible repeat (first | apply Kd.R_alloc | apply Kd.R_drewN | apply Kd.R_drew)); exact Kd.R_mono d9.out (fun _ hk => ⟨hk.1.2, hk.2⟩)⟩, ⟨bf s.out⟩, ⟨bf z.out⟩, ⟨bf D.out⟩, ⟨bs HB.out⟩⟩
       case round =>
        clear H'
        try clear c1
        try clear c2
        try clear p2
        try clear q2
        try clear eb
        try clear c3
        try clear c4
        try clear c5
        try clear c6
        try clear c9
        try clear aD
        try clear aJ
        try clear cQ
        try clear cR
        try clear cS
        try clear cT
        try clear cU
        try clear dO
        try clear dP
        try clear ec
        try clear cV
        try clear cW
        try clear cX
        try clear aZ
        try clear a6
        try clear dc
        try clear a7
        try clear dd
        try clear aK
        try clear ck
        try clear ed
        try clear ee
        try clear ef
        try clear eg
        try clear eh
        try clear ei
        try clear ej
        try clear ek
        try clear bO bP
        try clear bR bS
        try clear bU bV
        try clear bX bY
        try clear b0 b1
        try clear b3 b4
        try clear b6 b7
        try clear b9 ce
        try clear cg ch
        try clear df dg
        try clear di dj
        try clear dm dp
        try clear dr dt
        try clear dx dy
        try clear dA dB
        try clear dE dF
        try clear dH dI
        try clear dL dM
        try clear bQ
        try clear bT
        try clear bW
        try clear bZ
        try clear b2
        try clear b5
        try clear b8
        try clear cf
        try clear ci
        try clear dh
        try clear dk
        try clear dq
        try clear du
        try clear dz
        try clear dC
        try clear dG
        try clear dJ
        try clear dN
        try clear cn
        try clear p2
        try clear aG
        try clear aH
        obtain ⟨aq, Z, rfl, HA, bD, ag, Y, s, z, D, HB⟩ := hrel
        cases gk with
        | zero => exact absurd HA.out (by simp [spec_WalkPath.l0])
        | succ k2 =>
         have H := HA.out
         clear HA
         simp only [spec_WalkPath.l0] at H
         by_cases aT : aq > 0
         ·rw [if_pos aT] at H
          have dQ : decide (0 < aq) = true := decide_eq_true aT
          clear aT
          obtain ⟨ai, bE⟩ : ∃ j_ : Int, (wrap64 ((Z.length : Int) - 1)) = j_ := ⟨_, rfl⟩
          replace H : (if 0 ≤ (ai) then (if (ai) < (Z.length : Int) then ((spec_l2Near.f k2 G I ((rd_T36 Z (ai)).f0) ((rd_T36 Z (ai)).f1)).bind fun X => (spec_WalkPath.l1 k2 L aq Z X 0 G I)) else (none)) else (none)) = some (r1, r2) := by first | (rw [bE] at H; exact H) | (simp only [bE] at H ⊢; exact H)
          have fh : (IntKind.i64.wrap ((Z.length : Int) - 1)) = ai := (i64_w _).trans bE
          by_cases bj : 0 ≤ (ai)
          ·rw [if_pos bj] at H
           have el : decide (0 ≤ (ai)) = true := decide_eq_true bj
           clear bj
           by_cases bk : (ai) < (Z.length : Int)
           ·rw [if_pos bk] at H
            have em : decide ((ai) < (Z.length : Int)) = true := decide_eq_true bk
            clear bk
            replace H := Option.bind_eq_some_iff.mp H
            obtain ⟨X, dR, H⟩ := H
            try dsimp -simprocs only at H
            have en := am dR
            clear dR
            have H' := am H
            clear H
            try go_wp2
            replace ag := rd_ ag
            replace Y := rd_ Y
            replace s := bd s
            replace z := bd z
            replace D := bd D
            replace HB := hd HB
            obtain ⟨fi, cp, dS⟩ := Kd.R_slice Y.out
            (first | subst dS | (injection dS with aM bl aN; have bm := aM.symm; have bn := aN.symm; clear aM bl aN; subst bm; subst bn))
            have bF : 0 ≤ ((ai) : Int) := oda
            have bG : (ai) < (Z.length : Int) := oda
            obtain ⟨a8, eo, ct, cu⟩ := at_T36 (Kd.R_reads' Y.out).2.2 (ai) bF bG
            cases eo
            replace bF := eq_true bF
            replace bG := eq_true bG
            refine sta 9 (fun w' => w'.cell? ⟨aC, 0, none⟩ = some (.slice ak G.length al) ∧ w'.cell? ⟨aC, 1, none⟩ = some (.slice an I.length ao) ∧ w'.cell? (a8.add (((ai)).toNat * 2)) = some (.int .i64 ((rd_T36 Z (ai)).f0)) ∧ w'.cell? ⟨(a8.add (((ai)).toNat * 2)).block, (a8.add (((ai)).toNat * 2)).off + 1, none⟩ = some (.int .i64 ((rd_T36 Z (ai)).f1))) [] ⟨cx s 0, cx s 1, ct, cu⟩ (fun hHeld => ?_); refine with_tabW spec_WalkPath.tab9 spec_WalkPath.bits9 (fun HT_ HW_ => ?_)
            generalize wr.drew = fj at ag Y s z D HB ct cu hHeld ⊢
            refine pu 1 46 ?_
            refine pu 2 47 ?_
            refine pu 3 48 ?_
            refine pu 4 49 ?_
            refine pu 5 50 ?_
            refine tk 0 45 ?_
            refine tk 6 51 ?_
            refine on 7 52 (fun K hK => ?_)
            refine goes_ Try.func64 (by kernel_rfl) rfl #[.agg #[.slice ak G.length al, .slice an I.length ao], .agg #[.int .i64 ((rd_T36 Z (ai)).f0), .int .i64 ((rd_T36 Z (ai)).f1)]] (by rfl) rfl rfl (by (try simp only [List.map_toArray, List.map_cons, List.map_nil]); first | done | (simp only [bE]; rfl) | rfl | (simp only [List.length_drop, List.length_take]; rfl)) ?_
            with_reducible refine (spec_l2Near.calls k2 _ _ G _ _ I ((rd_T36 Z (ai)).f0) ((rd_T36 Z (ai)).f1) X _ ?aa ?ab ?ac ?ad en.out).mono ?_
            (case aa => exact Kd.C_below aw.out (bs HB.out))
            (case ab => exact ax.out)
            (case ac => exact Kd.C_below ay.out (bs HB.out))
            (case ad => exact az.out)
            rintro e fk ⟨dT, rfl, aE, hb⟩
            have bo := cw hb hHeld.2.2.1
            have br := cw hb hHeld.2.2.2
            refine ⟨_, rfl, ?_⟩
            replace ag := rb ag hb
            have ep := am (Kd.R_lower (Kd.R_newB (Kd.R_newB (Kd.R_new' aE (rk Y)) (g := ar) (o := .cells #[.int .i64 O, .int .i64 T] 36 (0, 0)) (bf z.out)) (g := au) (o := .cells #[.int .i64 ae, .int .i64 af] 36 (0, 0)) (bf D.out)) (below_size (bs HB.out)))
            replace Y := re Y aE hb
            replace s := bb s hb rfl
            replace z := bb z hb rfl
            replace D := bb D hb rfl
            replace HB := hs HB hb
            (try clear hb)
            (try clear hb2)
            (try clear hk)
            (try clear hi)
            (try clear aE)
            refine hK.out _ _ ⟨cx s 0, cx s 1, bo, br⟩ (fun hHeld => ?_)
            clear hK K
            refine nrm 52 ?_
            refine pu 8 11 ?_
            refine dn ?_
            try go_wp2
            go_loopg [12] k2 (fun kq eq w' => ∃ (J : Int), eq = .int .i64 J ∧ Aside0 (spec_WalkPath.l1 kq L aq Z X J G I = some (r1, r2)) ∧ Aside0 (kq ≤ k2) ∧ Aside0 (Kd.R (Kd.int .i64) 3 w' w.heap.size (fun _ => True) (.slice (some aR) L.length dK) L) ∧ Aside0 (Kd.R k36 36 w' w.heap.size (fun k_ => some k_ ≠ (dT : Value).ownBlock ∧ k_ ≠ ar ∧ k_ ≠ au) (.slice (some a8) Z.length cp) Z) ∧ Aside0 (Kd.R k36 36 w' w.heap.size (fun k_ => some k_ ≠ ((.slice (some a8) Z.length cp) : Value).ownBlock ∧ k_ ≠ ar ∧ k_ ≠ au) dT X) ∧ Aside0 (w'.heap[aC]? = some (.cells #[(.slice ak G.length al), (.slice an I.length ao)] 34 (0, 0))) ∧ Aside0 (w'.heap[ar]? = some (.cells #[.int .i64 O, .int .i64 T] 36 (0, 0))) ∧ Aside0 (w'.heap[au]? = some (.cells #[.int .i64 ae, .int .i64 af] 36 (0, 0))) ∧ Aside0 (Below w.heap.size w w'))
            case atStart => exact ⟨(0), eqs, H', ⟨Nat.le_refl _⟩, ⟨rl ag.out⟩, ⟨by (with_reducible repeat (first | apply Kd.R_alloc | apply Kd.R_drewN | apply Kd.R_drew)); exact Kd.R_mono Y.out (fun _ hk => ⟨hk.2, ⟨hk.1.1, hk.1.2⟩⟩)⟩, ⟨by (with_reducible repeat (first | apply Kd.R_alloc | apply Kd.R_drewN | apply Kd.R_drew)); exact Kd.R_mono ep.out (fun _ hk => ⟨hk.1.1.2, ⟨hk.1.2, hk.2⟩⟩)⟩, ⟨bf s.out⟩, ⟨bf z.out⟩, ⟨bf D.out⟩, ⟨bs HB.out⟩⟩
            case round =>
             clear H'
             try clear c1
             try clear c2
             try clear p2
             try clear q2
             try clear eb
             try clear c3
             try clear c4
             try clear c5
             try clear c6
             try clear p6
             try clear c7
             try clear c9
             try clear aD
             try clear aJ
             try clear cQ
             try clear cR
             try clear cS
             try clear cT
             try clear cU
             try clear dO
             try clear dP
             try clear ec
             try clear fl
             try clear fm
             try clear fo
             try clear cV
             try clear cW
             try clear cX
             try clear aZ
             try clear a6
             try clear dc
             try clear a7
             try clear dd
             try clear aK
             try clear ck
             try clear ed
             try clear ee
             try clear ef
             try clear eg
             try clear eh
             try clear ei
             try clear ej
             try clear ek
             try clear fp
             try clear fq
             try clear aT
             try clear dQ
             try clear bj
             try clear el
             try clear bk
             try clear em
             try clear bO bP
             try clear bR bS
             try clear bU bV
             try clear bX bY
             try clear b0 b1
             try clear b3 b4
             try clear b6 b7
             try clear b9 ce
             try clear cg ch
             try clear df dg
             try clear di dj
             try clear dm dp
             try clear dr dt
             try clear dx dy
             try clear dA dB
             try clear dE dF
             try clear dH dI
             try clear dL dM
             try clear bQ
             try clear bT
             try clear bW
             try clear bZ
             try clear b2
             try clear b5
             try clear b8
             try clear cf
             try clear ci
             try clear dh
             try clear dk
             try clear dq
             try clear du
             try clear dz
             try clear dC
             try clear dG
             try clear dJ
             try clear dN
             try clear cn
             try clear ct
             try clear cu
             try clear p2
             try clear dO
             try clear aG
             try clear bF
             try clear q2
             try clear dP
             try clear aH
             try clear bG
             obtain ⟨J, rfl, HA, bH, ag, Y, ap, s, z, D, HB⟩ := hrel
             cases gk with
             | zero => exact absurd HA.out (by simp [spec_WalkPath.l1])
             | succ k3 =>
              have H := HA.out
              clear HA
              simp only [spec_WalkPath.l1] at H
              by_cases bI : 0 ≤ J
              ·rw [if_pos bI] at H
               have fr : decide (0 ≤ J) = true := decide_eq_true bI
               clear bI
               by_cases bJ : J < (X.length : Int)
               ·rw [if_pos bJ] at H
                have fs : decide (J < (X.length : Int)) = true := decide_eq_true bJ
                clear bJ
                replace H := Option.bind_eq_some_iff.mp H
                obtain ⟨aj, dU, H⟩ := H
                try dsimp -simprocs only at H
                have dV := am dU
                clear dU
                by_cases bK : 0 ≤ aj
                ·rw [if_pos bK] at H
                 have ft : decide (0 ≤ aj) = true := decide_eq_true bK
                 clear bK
                 by_cases bL : aj < (L.length : Int)
                 ·rw [if_pos bL] at H
                  have fu : decide (aj < (L.length : Int)) = true := decide_eq_true bL
                  clear bL
                  by_cases aU : (rd L aj) = (wrap64 (aq - 1))
                  ·rw [if_pos aU] at H
                   have er : ((rd L aj) == (wrap64 (aq - 1))) = true := beq_iff_eq.mpr aU
                   have es : ((rd L aj) != (wrap64 (aq - 1))) = false := bne_eq_false_iff_eq.mpr aU
                   clear aU
                   by_cases bM : Z.length < 8796093022208
                   ·rw [if_pos bM] at H
                    have et := am bM
                    clear bM
                    obtain ⟨dW, cv⟩ : ∃ y_ : List (S36), y_ = (Z ++ [(⟨(rd_T36 X J).f0, (rd_T36 X J).f1⟩ : S36)]) := ⟨_, rfl⟩
                    replace H : (spec_WalkPath.l0 k3 L (wrap64 (aq - 1)) dW G I) = some (r1, r2) := by first | (rw [cv]; exact H) | exact H
                    have eu := am cv
                    clear cv
                    have H' := am H
                    clear H
                    try go_wp2
                    replace ag := rd_ ag
                    replace Y := rd_ Y
                    replace ap := rd_ ap
                    replace s := bd s
                    replace z := bd z
                    replace D := bd D
                    replace HB := hd HB
                    obtain ⟨fv, ev, dX⟩ := Kd.R_slice ap.out
                    (first | subst dX | (injection dX with aM bl aN; have bm := aM.symm; have bn := aN.symm; clear aM bl aN; subst bm; subst bn))
                    have aV : 0 ≤ (J : Int) := oda
                    have aW : J < (X.length : Int) := oda
                    obtain ⟨aI, cy, bt, bu⟩ := at_T36 (Kd.R_reads' ap.out).2.2 J aV aW
                    cases cy
                    replace aV := eq_true aV
                    replace aW := eq_true aW
                    have aX : 0 ≤ (aj : Int) := oda
                    have aY : aj < (L.length : Int) := oda
                    obtain ⟨cz, cA, bv⟩ := Kd.at_int (Kd.R_reads' ag.out).2.2 aj aX aY
                    obtain rfl : aR = cz := (by injection cA)
                    replace aX := eq_true aX
                    replace aY := eq_true aY
                    refine sta 12 (fun w' => w'.cell? ⟨aC, 0, none⟩ = some (.slice ak G.length al) ∧ w'.cell? ⟨aC, 1, none⟩ = some (.slice an I.length ao) ∧ w'.cell? (aI.add ((J).toNat * 2)) = some (.int .i64 ((rd_T36 X J).f0)) ∧ w'.cell? ⟨(aI.add ((J).toNat * 2)).block, (aI.add ((J).toNat * 2)).off + 1, none⟩ = some (.int .i64 ((rd_T36 X J).f1)) ∧ w'.cell? (aR.add (aj).toNat) = some (.int .i64 (rd L aj))) [] ⟨cx s 0, cx s 1, bt, bu, bv⟩ (fun hHeld => ?_); refine with_tabW spec_WalkPath.tab11 spec_WalkPath.bits11 (fun HT_ HW_ => ?_)
                    generalize wr.drew = fw at ag Y ap s z D HB bt bu bv hHeld ⊢
                    refine pu 0 53 ?_
                    refine pu 2 55 ?_
                    refine pu 3 56 ?_
                    refine pu 4 57 ?_
                    refine pu 9 62 ?_
                    refine pu 10 63 ?_
                    refine tk 1 54 ?_
                    refine tk 5 58 ?_
                    refine on 6 59 (fun K hK => ?_)
                    refine gs Try.func62 #[.agg #[.slice ak G.length al, .slice an I.length ao], .agg #[.int .i64 ((rd_T36 X J).f0), .int .i64 ((rd_T36 X J).f1)]] ?_
                    with_reducible refine (spec_l2At.calls k3 _ _ G _ _ I ((rd_T36 X J).f0) ((rd_T36 X J).f1) aj _ ?aa ?ab ?ac ?ad dV.out).mono ?_
                    (case aa => exact Kd.C_below aw.out (bs HB.out))
                    (case ab => exact ax.out)
                    (case ac => exact Kd.C_below ay.out (bs HB.out))
                    (case ad => exact az.out)
                    rintro e fx ⟨rfl, hb⟩
                    have bo := cw hb hHeld.2.2.1
                    have br := cw hb hHeld.2.2.2.1
                    have cB := cw hb hHeld.2.2.2.2
                    refine ⟨_, rfl, ?_⟩
                    replace ag := rb ag hb
                    replace Y := rb Y hb
                    replace ap := rb ap hb
                    replace s := bb s hb rfl
                    replace z := bb z hb rfl
                    replace D := bb D hb rfl
                    replace HB := hs HB hb
                    (try clear hb)
                    (try clear hb2)
                    (try clear hk)
                    (try clear hi)
                    refine hK.out _ _ ⟨cx s 0, cx s 1, bo, br, cB⟩ (fun hHeld => ?_)
                    clear hK K
                    refine nrm 59 ?_
                    refine pu 7 60 ?_
                    refine tk 8 61 ?_
                    refine pu 11 64 ?_
                    refine dn ?_
                    have cC : 0 ≤ (J : Int) := oda
                    have cD : J < (X.length : Int) := oda
                    obtain ⟨ew, ex, fy, fz⟩ := at_T36 (Kd.R_reads' ap.out).2.2 J cC cD
                    obtain rfl : aI = ew := (by injection ex)
                    replace cC := eq_true cC
                    replace cD := eq_true cD
                    try go_wp2_with (first | ((with_reducible refine gate_builtin (b := .append) (xs := #[.tmp 67, .tmp 72]) rfl ?_); at_builtin; refine Kd.R_append k36 (w0 := w) w.heap.size rfl (.tmp 67) (.tmp 72) 29 36 (.agg #[(.int .i64 0), (.int .i64 0)]) 16 rfl Try.underlying29 info36 rfl (by decide) (by omega) (.slice (some a8) Z.length cp) Z (⟨(rd_T36 X J).f0, (rd_T36 X J).f1⟩ : S36) [.int .i64 ((rd_T36 X J).f0), .int .i64 ((rd_T36 X J).f1)] (fun k_ => some k_ ≠ (.slice (some aI) X.length ev : Value).ownBlock ∧ k_ ≠ ar ∧ k_ ≠ au) (fun _ => False) rfl rfl ?aP (fun _ hk => hk.elim) ?aF ?aO ?aB ?aS ?aL ?_; (case aP => exact k36_mkM _ _ _ (⟨(rd_T36 X J).f0, (rd_T36 X J).f1⟩ : S36)); (case aB => exact (bs HB.out)); (case aF => exact (fun k_ hk => ⟨Kd.fresh' (rk ap) k_ hk, Kd.freshB (g := ar) (o := .cells #[.int .i64 O, .int .i64 T] 36 (0, 0)) (bf z.out) k_ hk, Kd.freshB (g := au) (o := .cells #[.int .i64 ae, .int .i64 af] 36 (0, 0)) (bf D.out) k_ hk⟩)); (case aO => exact (rl Y.out)); (case aS => exact (below_size (bs HB.out))); (case aL => have := et.out; omega); intro fA fB ho hb hg hat; rw [← eu.out] at ho; replace ag := am (Kd.R_over' (rl ag.out) (Kd.R_typed (rl Y.out)) (by decide) hg); replace ap := am (Kd.R_after (ok := (fun k_ => k_ ≠ ar ∧ k_ ≠ au)) (by (with_reducible repeat (first | apply Kd.R_alloc | apply Kd.R_drewN | apply Kd.R_drew)); exact Kd.R_mono ap.out (fun _ hk => ⟨⟨hk.2.1, hk.2.2⟩, hk.1⟩)) hg hat); replace s := gr s Y hg; replace z := am (blk_grown (g := ar) (o := .cells #[.int .i64 O, .int .i64 T] 36 (0, 0)) (bf z.out) hg (Kd.R_away Y.out (fun _ hk => hk.2.1))); replace D := am (blk_grown (g := au) (o := .cells #[.int .i64 ae, .int .i64 af] 36 (0, 0)) (bf D.out) hg (Kd.R_away Y.out (fun _ hk => hk.2.2))); replace HB := am hb; have ey := am ho; clear Y; clear ho hb hg hat))
                    go_roundg k3
                    case measure => have := bC.out; have := bD.out; have := bH.out; omega
                    case rel => exact ⟨(wrap64 (aq - 1)), (dW), eqs, H', ⟨by have := bC.out; have := bD.out; have := bH.out; omega⟩, ⟨rl ag.out⟩, ⟨by (with_reducible repeat (first | apply Kd.R_alloc | apply Kd.R_drewN | apply Kd.R_drew)); exact Kd.R_mono ey.out (fun _ hk => ⟨hk.2.1, hk.2.2⟩)⟩, ⟨bf s.out⟩, ⟨bf z.out⟩, ⟨bf D.out⟩, ⟨bs HB.out⟩⟩
                   ·rw [if_neg bM] at H
                    exact absurd H (by simp)
                  ·rw [if_neg aU] at H
                   have er : ((rd L aj) == (wrap64 (aq - 1))) = false := beq_eq_false_iff_ne.mpr aU
                   have es : ((rd L aj) != (wrap64 (aq - 1))) = true := bne_iff_ne.mpr aU
                   have H' := am H
                   clear H
                   try go_wp2
                   replace ag := rd_ ag
                   replace Y := rd_ Y
                   replace ap := rd_ ap
                   replace s := bd s
                   replace z := bd z
                   replace D := bd D
                   replace HB := hd HB
                   obtain ⟨fC, fD, dY⟩ := Kd.R_slice ap.out
                   (first | subst dY | (injection dY with aM bl aN; have bm := aM.symm; have bn := aN.symm; clear aM bl aN; subst bm; subst bn))
                   have aV : 0 ≤ (J : Int) := oda
                   have aW : J < (X.length : Int) := oda
                   obtain ⟨aI, cy, bt, bu⟩ := at_T36 (Kd.R_reads' ap.out).2.2 J aV aW
                   cases cy
                   replace aV := eq_true aV
                   replace aW := eq_true aW
                   have aX : 0 ≤ (aj : Int) := oda
                   have aY : aj < (L.length : Int) := oda
                   obtain ⟨cz, cA, bv⟩ := Kd.at_int (Kd.R_reads' ag.out).2.2 aj aX aY
                   obtain rfl : aR = cz := (by injection cA)
                   replace aX := eq_true aX
                   replace aY := eq_true aY
                   refine sta 12 (fun w' => w'.cell? ⟨aC, 0, none⟩ = some (.slice ak G.length al) ∧ w'.cell? ⟨aC, 1, none⟩ = some (.slice an I.length ao) ∧ w'.cell? (aI.add ((J).toNat * 2)) = some (.int .i64 ((rd_T36 X J).f0)) ∧ w'.cell? ⟨(aI.add ((J).toNat * 2)).block, (aI.add ((J).toNat * 2)).off + 1, none⟩ = some (.int .i64 ((rd_T36 X J).f1)) ∧ w'.cell? (aR.add (aj).toNat) = some (.int .i64 (rd L aj))) [] ⟨cx s 0, cx s 1, bt, bu, bv⟩ (fun hHeld => ?_); refine with_tabW spec_WalkPath.tab11 spec_WalkPath.bits11 (fun HT_ HW_ => ?_)
                   generalize wr.drew = fE at ag Y ap s z D HB bt bu bv hHeld ⊢
                   refine pu 0 53 ?_
                   refine pu 2 55 ?_
                   refine pu 3 56 ?_
                   refine pu 4 57 ?_
                   refine pu 9 62 ?_
                   refine pu 10 63 ?_
                   refine tk 1 54 ?_
                   refine tk 5 58 ?_
                   refine on 6 59 (fun K hK => ?_)
                   refine gs Try.func62 #[.agg #[.slice ak G.length al, .slice an I.length ao], .agg #[.int .i64 ((rd_T36 X J).f0), .int .i64 ((rd_T36 X J).f1)]] ?_
                   with_reducible refine (spec_l2At.calls k3 _ _ G _ _ I ((rd_T36 X J).f0) ((rd_T36 X J).f1) aj _ ?aa ?ab ?ac ?ad dV.out).mono ?_
                   (case aa => exact Kd.C_below aw.out (bs HB.out))
                   (case ab => exact ax.out)
                   (case ac => exact Kd.C_below ay.out (bs HB.out))
                   (case ad => exact az.out)
                   rintro e fF ⟨rfl, hb⟩
                   have bo := cw hb hHeld.2.2.1
                   have br := cw hb hHeld.2.2.2.1
                   have cB := cw hb hHeld.2.2.2.2
                   refine ⟨_, rfl, ?_⟩
                   replace ag := rb ag hb
                   replace Y := rb Y hb
                   replace ap := rb ap hb
                   replace s := bb s hb rfl
                   replace z := bb z hb rfl
                   replace D := bb D hb rfl
                   replace HB := hs HB hb
                   (try clear hb)
                   (try clear hb2)
                   (try clear hk)
                   (try clear hi)
                   refine hK.out _ _ ⟨cx s 0, cx s 1, bo, br, cB⟩ (fun hHeld => ?_)
                   clear hK K
                   refine nrm 59 ?_
                   refine pu 7 60 ?_
                   refine tk 8 61 ?_
                   refine pu 11 64 ?_
                   refine dn ?_
                   try go_wp2
                   go_roundg k3
                   case measure => have := bC.out; have := bD.out; have := bH.out; omega
                   case rel => exact ⟨(wrap64 (J + 1)), eqs, H', ⟨by have := bC.out; have := bD.out; have := bH.out; omega⟩, ⟨rl ag.out⟩, ⟨rl Y.out⟩, ⟨rl ap.out⟩, ⟨bf s.out⟩, ⟨bf z.out⟩, ⟨bf D.out⟩, ⟨bs HB.out⟩⟩
                 ·rw [if_neg bL] at H
                  exact absurd H (by simp)
                ·rw [if_neg bK] at H
                 exact absurd H (by simp)
               ·rw [if_neg bJ] at H
                exact absurd H (by simp)
              ·rw [if_neg bI] at H
               exact absurd H (by simp)
           ·rw [if_neg bk] at H
            exact absurd H (by simp)
          ·rw [if_neg bj] at H
           exact absurd H (by simp)
         ·rw [if_neg aT] at H
          have dQ : decide (0 < aq) = false := decide_eq_false aT
          clear aT
          simp only [Option.some.injEq, Prod.mk.injEq] at H
          obtain ⟨rfl, rfl⟩ := H
          go_wp2
          go_ret2
          exact ⟨_, eqr, by (with_reducible repeat (first | apply Kd.R_alloc | apply Kd.R_drewN | apply Kd.R_drew)); exact Kd.R_mono Y.out (fun _ hk => trivial), bs HB.out⟩
     ·rw [if_neg a7] at H
      exact absurd H (by simp)
    ·rw [if_neg a6] at H
     exact absurd H (by simp)

/-! ### laws_toNode: function 19 -/
def laws_toNode.f (s : Int) (y : Int) : Option (Int × Int) := some (s, y)
theorem laws_toNode.calls (D : Int) (G : Int) (J : Int) (L : Int) (w : World) (h : laws_toNode.f D G = some (J, L)) :
  Calls Try.prog 19 #[.agg #[.int .i64 D, .int .i64 G]] w fun e w' => e = .returned (.agg #[.int .i64 J, .int .i64 L]) ∧ Below w.heap.size w w' := by
 have hu27 := Try.underlying27
 have hu36 := Try.underlying36
 have HB := am (Below.refl w.heap.size w)
 have H := h; unfold laws_toNode.f at H
 clear h
 simp only [Option.some.injEq, Prod.mk.injEq] at H
 obtain ⟨rfl, rfl⟩ := H
 go_enter Try.func19, Try.ntmps19
 go_wp2_with (first | ((with_reducible refine gd 1 rfl ?_); refine bx 1 (cs := #[.int .i64 D, .int .i64 G]) (t := 27) ?_; intro ad hg w2 hbox hb; have y := am hbox; have ae := gwb HB hg; replace HB := hs HB hb; clear hb hbox hg) | ((with_reducible refine gd 2 rfl ?_); refine bx 2 (cs := #[.int .i64 0, .int .i64 0]) (t := 36) ?_; intro T hg w3 hbox hb; have z := am hbox; have af := gwb HB hg; replace HB := hs HB hb; have X := nq y hg; have Y := nq' y hg; replace y := bb y hb rfl; clear hb hbox hg) | ((with_reducible refine gd 3 rfl ?_); refine bx 3 (cs := #[.int .i64 0, .int .i64 0]) (t := 36) ?_; intro ag hg I hbox hb; have O := am hbox; have ah := gwb HB hg; replace HB := hs HB hb; have Z := nq y hg; have aa := nq' y hg; replace y := bb y hb rfl; have ab := nq z hg; have ac := nq' z hg; replace z := bb z hb rfl; clear hb hbox hg; have ai := X.out; have aj := Y.out; have ak := Z.out; have al := aa.out; obtain ⟨an, ao⟩ := bc2 (w := I) y.out; have ap := blk_frozen y.out; have aq := ac.out; have ar := ab.out; obtain ⟨au, av⟩ := bc2 (w := I) O.out; have aw := blk_frozen O.out; obtain ⟨ax, ay⟩ := bc2 (w := I) z.out; have az := blk_frozen z.out))
 refine bodyPost_ret (results_cell_row rfl _ _ T 36 #[.int .i64 D, .int .i64 G] (0, 0) _ rfl (bp z.out rfl) Try.underlying36 rfl (by kernel_rfl)) rfl ?_
 exact ⟨eqr, bs HB.out⟩

/-! ### laws_toNodeS: function 65 -/
def laws_toNodeS.l0 : Nat → List (S27) → List (S36) → Int → Option ((List (S36)))
 | 0, _, _, _ => none
 | k + 1, y, z, s => if s < (y.length : Int) then (if 0 ≤ s then ((laws_toNode.f ((rd_T27 y s).f0) ((rd_T27 y s).f1)).bind fun D => (if s < (z.length : Int) then (laws_toNodeS.l0 k y (z.set (s : Int).toNat (⟨D.1, D.2⟩ : S36)) (wrap64 (s + 1))) else (none))) else (none)) else (some z)
def laws_toNodeS.f (k : Nat) (l0 : List (S27)) : Option ((List (S36))) := if 0 ≤ (l0.length : Int) then (if ((l0.length : Int) : Int).toNat ≤ 17592186044416 then (laws_toNodeS.l0 k l0 (List.replicate ((l0.length : Int) : Int).toNat z36) 0) else (none)) else (none)
theorem laws_toNodeS.calls (k : Nat) (A0 : Option Addr) (c0 : Nat) (l0 : List (S27)) (r : List (S36)) (w : World) (ao : Kd.C k27 w A0 l0.length l0) (ap : l0.length ≤ c0) (h : laws_toNodeS.f k l0 = some r) :
  Calls Try.prog 65 #[.slice A0 l0.length c0] w fun e w' => ∃ aq : Value, e = .returned (aq) ∧ Kd.R k36 36 w' w.heap.size (fun _ => True) aq r ∧ Below w.heap.size w w' := by
 have hu27 := Try.underlying27
 have hu36 := Try.underlying36
 have aJ := am ao
 have a9 := am ap
 clear ao ap
 have HB := am (Below.refl w.heap.size w)
 have H := h; unfold laws_toNodeS.f at H
 clear h
 by_cases c2 : 0 ≤ (l0.length : Int)
 ·rw [if_pos c2] at H
  have aK := eq_true c2
  have aM : decide (0 ≤ (l0.length : Int)) = true := decide_eq_true c2
  clear c2
  by_cases J : ((l0.length : Int) : Int).toNat ≤ 17592186044416
  ·rw [if_pos J] at H
   have aN := eq_true J
   have aQ : decide (((l0.length : Int) : Int).toNat ≤ 17592186044416) = true := decide_eq_true J
   clear J
   obtain ⟨ar, ab⟩ : ∃ y_ : List (S36), y_ = (List.replicate ((l0.length : Int) : Int).toNat z36) := ⟨_, rfl⟩
   replace H : (laws_toNodeS.l0 k l0 ar 0) = some r := by first | (rw [ab]; exact H) | exact H
   have au := am ab
   clear ab
   have H' := am H
   clear H
   go_enter Try.func65, Try.ntmps65
   go_wp2_with (first | ((with_reducible refine gd 7 rfl ?_); refine Kd.R_make k36 _ 36 rfl (N := 7) rfl 29 _ _ rfl (l0.length : Int) rfl rfl Try.underlying29 (.agg #[(.int .i64 0), (.int .i64 0)]) 16 info36 rfl (by decide) (by omega) z36 (ok := fun _ => True) (okp := fun _ => True) (k36_mkM _ _ _ z36 ) (fun _ hk => hk) trivial (oda) (Nat.le_trans (Nat.mul_le_mul_right _ (oda : (l0.length : Int).toNat ≤ 17592186044416)) (by omega)) (Below.refl _ _) (Nat.le_refl _) ?_; intro aR w4 X hb hg_ hnew_; clear hg_ hnew_; (first | rw [← au.out] at X | (simp only [Int.reduceToNat] at X; rw [← au.out] at X)); have aT := am (Kd.R_lower X (below_size (bs HB.out))); replace HB := hs HB hb; clear hb X))
   go_loopg [4] k (fun kq v4 w' => ∃ (y : List (S36)) (s : Int), v4 = .int .i64 s ∧ Aside0 (laws_toNodeS.l0 kq l0 y s = some r) ∧ Aside0 (kq ≤ k) ∧ Aside0 (Kd.R k36 36 w' w.heap.size (fun _ => True) aR y) ∧ Aside0 (Below w.heap.size w w'))
   case atStart => exact ⟨(ar), (0), eqs, H', ⟨Nat.le_refl _⟩, ⟨rl aT.out⟩, ⟨bs HB.out⟩⟩
   case round =>
    clear H'
    try clear c2
    try clear aK
    try clear aM
    try clear p2
    try clear J
    try clear aN
    try clear aQ
    obtain ⟨y, s, rfl, HA, av, D, HB⟩ := hrel
    cases gk with
    | zero => exact absurd HA.out (by simp [laws_toNodeS.l0])
    | succ k1 =>
     have H := HA.out
     clear HA
     simp only [laws_toNodeS.l0] at H
     by_cases L : s < (l0.length : Int)
     ·rw [if_pos L] at H
      have aU : decide (s < (l0.length : Int)) = true := decide_eq_true L
      clear L
      by_cases Y : 0 ≤ s
      ·rw [if_pos Y] at H
       have ba : decide (0 ≤ s) = true := decide_eq_true Y
       clear Y
       replace H := Option.bind_eq_some_iff.mp H
       obtain ⟨⟨O, T⟩, aw, H⟩ := H
       try dsimp -simprocs only at H
       have A8 := am aw
       clear aw
       by_cases Z : s < (y.length : Int)
       ·rw [if_pos Z] at H
        have bc : decide (s < (y.length : Int)) = true := decide_eq_true Z
        clear Z
        obtain ⟨ac, ad⟩ : ∃ y_ : List (S36), y_ = (y.set (s : Int).toNat (⟨O, T⟩ : S36)) := ⟨_, rfl⟩
        replace H : (laws_toNodeS.l0 k1 l0 ac (wrap64 (s + 1))) = some r := by first | (rw [ad]; exact H) | exact H
        have aV := am ad
        clear ad
        have H' := am H
        clear H
        have ae : 0 ≤ (s : Int) := oda
        have af : s < (l0.length : Int) := oda
        obtain ⟨be, aW, ax, ay⟩ := at_T27 aJ.out s ae af
        cases aW
        replace ax := cb HB ax
        replace ay := cb HB ay
        replace ae := eq_true ae
        replace af := eq_true af
        go_wp2_with (first | ((with_reducible refine gc 19 rfl ?_); refine gl 20 Try.func19 #[.agg #[.int .i64 ((rd_T27 l0 s).f0), .int .i64 ((rd_T27 l0 s).f1)]] ?_; (with_reducible refine (laws_toNode.calls ((rd_T27 l0 s).f0) ((rd_T27 l0 s).f1) O T _ A8.out).mono ?_); rintro e I ⟨rfl, hb⟩; refine ⟨_, rfl, ?_⟩; replace D := rb D hb; replace HB := hs HB hb; (try clear hb); have ag : 0 ≤ (s : Int) := oda; have ah : (s : Int) < ((y.length : Int) : Int) := oda; obtain ⟨G, az, aA, aC, aX, bg, aD⟩ := Kd.R_form D.out (by omega); (first | cases aA | (injection aA with ea_ en_ ec_; (first | subst ea_ | (injection ea_ with ea_; subst ea_)); subst ec_; clear en_)); have aE := am aC; have bh := am aD; clear aC aX aD; obtain ⟨bi, aY, aG, ai, aj⟩ := Kd.R_elem D.out z36 (s : Int) ag ah; obtain rfl := k36_openM aG; have bj : I.cell? ⟨G, (s : Int).toNat * 2, none⟩ = some (.int .i64 ((rd_T36 y s).f0)) := ai 0 _ rfl; have bk : I.cell? ⟨G, (s : Int).toNat * 2 + 1, none⟩ = some (.int .i64 ((rd_T36 y s).f1)) := ai 1 _ rfl; have bl : I.frozen? ⟨G, (s : Int).toNat * 2, none⟩ = false := aj 0; have bm : I.frozen? ⟨G, (s : Int).toNat * 2 + 1, none⟩ = false := aj 1; clear aY ai aj aG; replace ag := eq_true ag; replace ah := eq_true ah; have HX12 := am (show Kd.R k36 36 I w.heap.size (fun _ => True) (.slice (some ⟨G, 0, none⟩) y.length az) y from (rl D.out)); obtain ⟨bn, aH, aI, aa, ak⟩ := Kd.R_elem HX12.out z36 (s : Int) (oda) (by have h_ : (s : Int) < ((y.length : Int) : Int) := oda; first | exact h_ | (have e_ := (Kd.R_reads' D.out).1; omega) | simpa using h_); obtain rfl := k36_openM aI; have al := Kd.R_seg HX12.out (s : Int) (oda) (by have h_ : (s : Int) < ((y.length : Int) : Int) := oda; first | exact h_ | (have e_ := (Kd.R_reads' D.out).1; omega) | simpa using h_) (seg := [.int .i64 O, .int .i64 T]) (j := 0) aH aa (show 2 ≤ 2 from by decide) (x' := (⟨O, T⟩ : S36)) (k36_mkM _ _ _ (⟨O, T⟩ : S36) ) (fun _ hk => hk); have aZ := aa 0 _ rfl; (try simp only [show (k36).sz = 2 from rfl, Nat.mul_one, Nat.add_zero] at aZ); have a6 := ak 0; (try simp only [show (k36).sz = 2 from rfl, Nat.mul_one, Nat.add_zero] at a6); have a7 := aa 1 _ rfl; (try simp only [show (k36).sz = 2 from rfl, Nat.mul_one, Nat.add_zero] at a7); have a8 := ak 1; (try simp only [show (k36).sz = 2 from rfl, Nat.mul_one, Nat.add_zero] at a8); clear aH aa ak aI) | ((with_reducible refine gate_store (t := 36) (p := 21) rfl ?_); refine store_event (t := 36) (p := 21) (v := ?vo_w13) (w1 := ((I.setCell ⟨G, (s : Int).toNat * 2, none⟩ (.int .i64 O)).setCell ⟨G, (s : Int).toNat * 2 + 1, none⟩ (.int .i64 T))) ?hg ?ho ?hn ?hr ?_; (case ho => rfl); (case hg => rfl); (case hn => rfl); (case hr => first | (go_simp; done) | (go_simp; rfl)); intro an hw; have hg : I.grownBy an (some G) := (by rw [hw]; exact al.2); have hp_ : Kd.R k36 36 an w.heap.size (fun _ => True) (.slice (some ⟨G, 0, none⟩) y.length az) ac := (by rw [hw, aV.out]; exact al.1); clear al; replace D := am hp_; replace HB := am ((by rw [hw]; exact below_set (below_set (HB.out) aE.out) aE.out : Below w.heap.size w an)); clear hg hw hp_))
        go_roundg k1
        case measure => have := av.out; omega
        case rel => exact ⟨(ac), (wrap64 (s + 1)), eqs, H', ⟨by have := av.out; omega⟩, ⟨rl D.out⟩, ⟨bs HB.out⟩⟩
       ·rw [if_neg Z] at H
        exact absurd H (by simp)
      ·rw [if_neg Y] at H
       exact absurd H (by simp)
     ·rw [if_neg L] at H
      have aU : decide (s < (l0.length : Int)) = false := decide_eq_false L
      clear L
      obtain rfl := Option.some.inj H
      go_wp2
      go_ret
      exact ⟨_, eqr, by (with_reducible repeat (first | apply Kd.R_alloc | apply Kd.R_drewN | apply Kd.R_drew)); exact D.out, bs HB.out⟩
  ·rw [if_neg J] at H
   exact absurd H (by simp)
 ·rw [if_neg c2] at H
  exact absurd H (by simp)

/-! ### laws_toEdge: function 98 -/
def laws_toEdge.f (z : Int) (D : Int) (G : Int) (I : Int) (J : Int) : Option (Int × Int × Int × Int × Int) := (laws_toNode.f D G).bind fun s => ((laws_toNode.f I J).bind fun y => (some (z, s.1, s.2, y.1, y.2)))
theorem laws_toEdge.calls (G : Int) (I : Int) (J : Int) (L : Int) (O : Int) (Z : Int) (r2 : Int) (r3 : Int) (r4 : Int) (r5 : Int) (w : World) (h : laws_toEdge.f G I J L O = some (Z, r2, r3, r4, r5)) :
  Calls Try.prog 98 #[.agg #[.int .i64 G, .int .i64 I, .int .i64 J, .int .i64 L, .int .i64 O]] w fun e w' => e = .returned (.agg #[.int .i64 Z, .int .i64 r2, .int .i64 r3, .int .i64 r4, .int .i64 r5]) ∧ Below w.heap.size w w' := by
 have hu70 := Try.underlying70
 have hu56 := Try.underlying56
 have hu27 := Try.underlying27
 have hu36 := Try.underlying36
 have HB := am (Below.refl w.heap.size w)
 have H := h; unfold laws_toEdge.f at H
 clear h
 replace H := Option.bind_eq_some_iff.mp H
 obtain ⟨⟨T, X⟩, aa, H⟩ := H
 try dsimp -simprocs only at H
 have A2 := am aa
 clear aa
 replace H := Option.bind_eq_some_iff.mp H
 obtain ⟨⟨ab, ac⟩, ad, H⟩ := H
 try dsimp -simprocs only at H
 have A3 := am ad
 clear ad
 simp only [Option.some.injEq, Prod.mk.injEq] at H
 obtain ⟨rfl, rfl, rfl, rfl, rfl⟩ := H
 go_enter Try.func98, Try.ntmps98
 go_wp2_with (first | ((with_reducible refine gd 1 rfl ?_); refine bx 1 (cs := #[.int .i64 G, .int .i64 I, .int .i64 J, .int .i64 L, .int .i64 O]) (t := 70) ?_; intro ae hg w4 hbox hb; have y := am hbox; have ao := gwb HB hg; replace HB := hs HB hb; clear hb hbox hg) | ((with_reducible refine gd 2 rfl ?_); refine bx 2 (cs := #[.int .i64 0, .int .i64 0, .int .i64 0, .int .i64 0, .int .i64 0]) (t := 56) ?_; intro Y hg w5 hbox hb; have z := am hbox; have ap := gwb HB hg; replace HB := hs HB hb; have ah := nq y hg; have ai := nq' y hg; replace y := bb y hb rfl; clear hb hbox hg) | ((with_reducible refine gd 3 rfl ?_); refine bx 3 (cs := #[.int .i64 0, .int .i64 0, .int .i64 0, .int .i64 0, .int .i64 0]) (t := 56) ?_; intro aq hg w6 hbox hb; have D := am hbox; have ar := gwb HB hg; replace HB := hs HB hb; have aj := nq y hg; have ak := nq' y hg; replace y := bb y hb rfl; have al := nq z hg; have an := nq' z hg; replace z := bb z hb rfl; clear hb hbox hg; have au := ah.out; have av := ai.out; have aw := aj.out; have ax := ak.out; obtain ⟨ay, az, aA, aC, aD⟩ := bc5 (w := w6) y.out; have aE := blk_frozen y.out; have aG := an.out; have aH := al.out; obtain ⟨aI, aJ, aK, aM, aN⟩ := bc5 (w := w6) D.out; have aQ := blk_frozen D.out) | ((with_reducible refine gc 19 rfl ?_); refine gl 9 Try.func19 #[.agg #[.int .i64 I, .int .i64 J]] ?_; (with_reducible refine (laws_toNode.calls I J T X _ A2.out).mono ?_); rintro e af ⟨rfl, hb⟩; refine ⟨_, rfl, ?_⟩; replace y := am (blk_below (g := ae) (o := .cells #[.int .i64 G, .int .i64 I, .int .i64 J, .int .i64 L, .int .i64 O] 70 (0, 0)) (bf y.out) hb); replace z := am (blk_below (g := Y) (o := .cells #[.int .i64 0, .int .i64 0, .int .i64 0, .int .i64 0, .int .i64 0] 56 (0, 0)) (bf z.out) hb); replace D := bq #[.int .i64 G, .int .i64 0, .int .i64 0, .int .i64 0, .int .i64 0] D hb; replace HB := hs HB hb; (try clear hb); obtain ⟨aR, aT, aU, aV, aW⟩ := bc5 (w := af) D.out; have aX := blk_frozen D.out; obtain ⟨aY, aZ, a6, a7, a8⟩ := bc5 (w := af) y.out; have a9 := blk_frozen y.out) | ((with_reducible refine gc 19 rfl ?_); refine gl 13 Try.func19 #[.agg #[.int .i64 L, .int .i64 O]] ?_; (with_reducible refine (laws_toNode.calls L O ab ac _ A3.out).mono ?_); rintro e ag ⟨rfl, hb⟩; refine ⟨_, rfl, ?_⟩; replace y := am (blk_below (g := ae) (o := .cells #[.int .i64 G, .int .i64 I, .int .i64 J, .int .i64 L, .int .i64 O] 70 (0, 0)) (bf y.out) hb); replace z := am (blk_below (g := Y) (o := .cells #[.int .i64 0, .int .i64 0, .int .i64 0, .int .i64 0, .int .i64 0] 56 (0, 0)) (bf z.out) hb); replace D := bq #[.int .i64 G, .int .i64 T, .int .i64 X, .int .i64 0, .int .i64 0] D hb; replace HB := hs HB hb; (try clear hb); obtain ⟨ba, bc, be, bg, bh⟩ := bc5 (w := ag) D.out; have bi := blk_frozen D.out; obtain ⟨bj, bk, bl, bm, bn⟩ := bc5 (w := ag) z.out; have bo := blk_frozen z.out))
 refine bodyPost_ret (results_cell_row rfl _ _ Y 56 #[.int .i64 G, .int .i64 T, .int .i64 X, .int .i64 ab, .int .i64 ac] (0, 0) _ rfl (bp z.out rfl) Try.underlying56 rfl (by kernel_rfl)) rfl ?_
 exact ⟨eqr, bs HB.out⟩

end Go.Proofs.Ytohmemckdogljaa.QFnExactWalkPath
