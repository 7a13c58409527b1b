/- Contracts of the Go functions that this law reaches: each does what its plain Lean function says. No condition. -/
import Derived.Test.YtohmemckdogljaaQFnExactGraphNearx0
import Derived.Test.YtohmemckdogljaaQFnExactGraphNearx2
import Derived.Test.YtohmemckdogljaaQFnExactGraphNearx3
import Derived.Test.YtohmemckdogljaaQFnExactGraphNearx7
import Derived.Test.YtohmemckdogljaaQFnExactGraphNearx10
namespace Go.Proofs.Ytohmemckdogljaa.QFnExactGraphNear
open Go.RowKit Go.Proofs.YtohmemckdogljaaW.PrintWords Go.Proofs.YtohmemckdogljaaW.PrintLast Go.Proofs.YtohmemckdogljaaW.PrintMore Go.Proofs.Ytohmemckdogljaa.Bl
attribute [local go_sem] max2_int min2_int max_two min_two max_three min_three max_four min_four   -- for this text's walks alone
set_option linter.unusedVariables false
set_option linter.unusedSimpArgs false
set_option maxHeartbeats 8000000
set_option maxRecDepth 100000

/-! ### laws_FnExactGraphNear: function 13 -/
def laws_FnExactGraphNear.j0 : Nat → List (S36) → List (S36) → Bool → List (S27) → List (S70) → Int → Int → Option (Bool)
 | 0, _, _, _, _, _, _, _ => none
 | k + 1, I, J, L, M, O, T, X => if L = true then (some false) else ((laws_markNodeS.f k J 1).bind fun s => ((laws_heldNodeS.f k s.2 1).bind fun y => (if y < 0 then (some false) else (if y = s.1 then ((laws_toGraph.f k M O).bind fun z => ((laws_toNode.f T X).bind fun D => ((impl_GraphNear.f k z.1 z.2 D.1 D.2).bind fun Y => ((laws_eqNodeS.f k Y I).bind fun Z => (if Z = true then ((laws_heldNodeS.f k s.2 1).bind fun G => (if G < 0 then (some false) else (if G = s.1 then (some true) else (some false)))) else (some false)))))) else (some false)))))
def laws_FnExactGraphNear.f (k : Nat) (s : List (S27)) (y : List (S70)) (D : Int) (G : Int) : Option (Bool) := (laws_szGraph.f s y 1048576).bind fun X => (if X < 0 then (some true) else ((laws_toGraph.f k s y).bind fun L => ((laws_toNode.f D G).bind fun M => ((spec_GraphNear.f k L.1 L.2 M.1 M.2).bind fun I => ((laws_toGraph.f k s y).bind fun z => ((laws_toNode.f D G).bind fun O => ((impl_GraphNear.f k z.1 z.2 O.1 O.2).bind fun J => ((laws_eqNodeS.f k J I).bind fun Y => (if Y = true then ((laws_toGraph.f k s y).bind fun T => ((laws_eqGraph.f k z.1 z.2 T.1 T.2).bind fun Z => (if Z = true then ((laws_markGraph.f k z.1 z.2 1).bind fun aa => (if aa.1 < 0 then (laws_FnExactGraphNear.j0 k I J true s y D G) else ((laws_eqNodeS.f k J I).bind fun ab => (laws_FnExactGraphNear.j0 k I J (!ab) s y D G)))) else (some false)))) else (some false))))))))))
theorem laws_FnExactGraphNear.calls (k : Nat) (az : Option Addr) (aA : Nat) (ac : List (S27)) (aB : Option Addr) (aC : Nat) (ad : List (S70)) (an : Int) (ao : Int) (r : Bool) (hT : Aside0 (r = true)) (w : World) (b4 : Kd.C k27 w az ac.length ac) (b5 : ac.length ≤ aA) (b6 : Kd.C k70 w aB ad.length ad) (b7 : ad.length ≤ aC) (h : laws_FnExactGraphNear.f k ac ad an ao = some r) :
  Calls Try.prog 13 #[.agg #[.slice az ac.length aA, .slice aB ad.length aC], .agg #[.int .i64 an, .int .i64 ao]] w fun e w' => e = .returned (.bool r) ∧ Below w.heap.size w w' := by
 have hu25 := Try.underlying25
 have hu27 := Try.underlying27
 have hu34 := Try.underlying34
 have a8 := am b4
 have a9 := am b5
 clear b4 b5
 have ba := am b6
 have bc := am b7
 clear b6 b7
 have HB := am (Below.refl w.heap.size w)
 have H := h; unfold laws_FnExactGraphNear.f at H
 clear h
 replace H := Option.bind_eq_some_iff.mp H
 obtain ⟨bv, b8, H⟩ := H
 try dsimp -simprocs only at H
 have A3 := am b8
 clear b8
 by_cases c4 : bv < 0
 ·rw [if_pos c4] at H
  have cM : decide (bv < 0) = true := decide_eq_true c4
  clear c4
  obtain rfl := Option.some.inj H
  go_enter Try.func13, Try.ntmps13
  go_wp2_with (first | ((with_reducible refine gd 2 rfl ?_); refine bx 2 (cs := #[.slice az ac.length aA, .slice aB ad.length aC]) (t := 25) ?_; intro aQ hg w5 hbox hb; have s := am hbox; have cN := gwb HB hg; replace HB := hs HB hb; clear hb hbox hg) | ((with_reducible refine gd 3 rfl ?_); refine bx 3 (cs := #[.int .i64 an, .int .i64 ao]) (t := 27) ?_; intro aR hg w6 hbox hb; have y := am hbox; have cO := gwb HB hg; replace HB := hs HB hb; have bO := nq s hg; have bP := nq' s hg; replace s := bb s hb rfl; clear hb hbox hg; have dY := bO.out; have dZ := bP.out; obtain ⟨d0, d1⟩ := bc2 (w := w6) s.out; have d2 := blk_frozen s.out) | ((with_reducible refine gc 16 rfl ?_); refine gl 15 Try.func16 #[.agg #[.slice az ac.length aA, .slice aB ad.length aC], .int .i64 1048576] ?_; (with_reducible refine (laws_szGraph.calls _ _ ac _ _ ad 1048576 bv _ ?Z ?aa ?ag ?al A3.out).mono ?_); (case Z => exact Kd.C_below a8.out (bs HB.out)); (case aa => exact a9.out); (case ag => exact Kd.C_below ba.out (bs HB.out)); (case al => exact bc.out); rintro e w9 ⟨rfl, hb⟩; refine ⟨_, rfl, ?_⟩; replace s := bb s hb rfl; replace y := bb y hb rfl; replace HB := hs HB hb; (try clear hb)))
  go_ret
  exact ⟨eqr, bs HB.out⟩
 ·rw [if_neg c4] at H
  have cM : decide (bv < 0) = false := decide_eq_false c4
  clear c4
  replace H := Option.bind_eq_some_iff.mp H
  obtain ⟨⟨aS, aY⟩, b9, H⟩ := H
  try dsimp -simprocs only at H
  have cP := am b9
  clear b9
  replace H := Option.bind_eq_some_iff.mp H
  obtain ⟨⟨bQ, bR⟩, ce, H⟩ := H
  try dsimp -simprocs only at H
  have cQ := am ce
  clear ce
  replace H := Option.bind_eq_some_iff.mp H
  obtain ⟨ah, cf, H⟩ := H
  try dsimp -simprocs only at H
  have cR := am cf
  clear cf
  replace H := Option.bind_eq_some_iff.mp H
  obtain ⟨⟨I, ae⟩, cg, H⟩ := H
  try dsimp -simprocs only at H
  have cS := am cg
  clear cg
  replace H := Option.bind_eq_some_iff.mp H
  obtain ⟨⟨bS, bT⟩, ch, H⟩ := H
  try dsimp -simprocs only at H
  have cT := am ch
  clear ch
  replace H := Option.bind_eq_some_iff.mp H
  obtain ⟨af, ci, H⟩ := H
  try dsimp -simprocs only at H
  have cU := am ci
  clear ci
  replace H := Option.bind_eq_some_iff.mp H
  obtain ⟨cV, cj, H⟩ := H
  try dsimp -simprocs only at H
  have cW := am cj
  clear cj
  by_cases bw : cV = true
  ·subst bw
   replace H : ((laws_toGraph.f k ac ad).bind fun ck => ((laws_eqGraph.f k I ae ck.1 ck.2).bind fun bU => (if bU = true then ((laws_markGraph.f k I ae 1).bind fun bV => (if bV.1 < 0 then (laws_FnExactGraphNear.j0 k ah af true ac ad an ao) else ((laws_eqNodeS.f k af ah).bind fun be => (laws_FnExactGraphNear.j0 k ah af (!be) ac ad an ao)))) else (some false)))) = some r := by rw [if_pos rfl] at H; exact H
   replace H := Option.bind_eq_some_iff.mp H
   obtain ⟨⟨bg, bE⟩, cl, H⟩ := H
   try dsimp -simprocs only at H
   have cX := am cl
   clear cl
   replace H := Option.bind_eq_some_iff.mp H
   obtain ⟨bU, cm, H⟩ := H
   try dsimp -simprocs only at H
   have cY := am cm
   clear cm
   by_cases bz : bU = true
   ·subst bz
    replace H : ((laws_markGraph.f k I ae 1).bind fun bV => (if bV.1 < 0 then (laws_FnExactGraphNear.j0 k ah af true ac ad an ao) else ((laws_eqNodeS.f k af ah).bind fun be => (laws_FnExactGraphNear.j0 k ah af (!be) ac ad an ao)))) = some r := by rw [if_pos rfl] at H; exact H
    replace H := Option.bind_eq_some_iff.mp H
    obtain ⟨⟨bF, aX, bA⟩, cn, H⟩ := H
    try dsimp -simprocs only at H
    have cZ := am cn
    clear cn
    have bW := am H
    clear H
    go_enter Try.func13, Try.ntmps13
    try go_wp2_with (first | ((with_reducible refine gd 2 rfl ?_); refine bx 2 (cs := #[.slice az ac.length aA, .slice aB ad.length aC]) (t := 25) ?_; intro aQ hg d3 hbox hb; have s := am hbox; have cN := gwb HB hg; replace HB := hs HB hb; clear hb hbox hg) | ((with_reducible refine gd 3 rfl ?_); refine bx 3 (cs := #[.int .i64 an, .int .i64 ao]) (t := 27) ?_; intro aR hg c0 hbox hb; have y := am hbox; have cO := gwb HB hg; replace HB := hs HB hb; have bO := nq s hg; have bP := nq' s hg; replace s := bb s hb rfl; clear hb hbox hg; have d4 := bO.out; have d5 := bP.out; obtain ⟨c6, c7⟩ := bc2 (w := c0) s.out; have c8 := blk_frozen s.out) | ((with_reducible refine gc 16 rfl ?_); refine gl 15 Try.func16 #[.agg #[.slice az ac.length aA, .slice aB ad.length aC], .int .i64 1048576] ?_; (with_reducible refine (laws_szGraph.calls _ _ ac _ _ ad 1048576 bv _ ?Z ?aa ?ag ?al A3.out).mono ?_); (case Z => exact Kd.C_below a8.out (bs HB.out)); (case aa => exact a9.out); (case ag => exact Kd.C_below ba.out (bs HB.out)); (case al => exact bc.out); rintro e c9 ⟨rfl, hb⟩; refine ⟨_, rfl, ?_⟩; replace s := bb s hb rfl; replace y := bb y hb rfl; replace HB := hs HB hb; (try clear hb)))
    replace s := bd s
    replace y := bd y
    replace HB := hd HB
    refine sta 6 (fun w' => w'.cell? ⟨aQ, 0, none⟩ = some (.slice az ac.length aA) ∧ w'.cell? ⟨aQ, 1, none⟩ = some (.slice aB ad.length aC) ∧ w'.cell? ⟨aR, 0, none⟩ = some (.int .i64 an) ∧ w'.cell? ⟨aR, 1, none⟩ = some (.int .i64 ao)) [] ⟨cx s 0, cx s 1, cx y 0, cx y 1⟩ (fun hHeld => ?_)
    generalize c9.drew = d6 at s y HB hHeld ⊢
    refine tk 0 18 ?_
    refine tk 2 20 ?_
    refine on 1 19 (fun K hK => ?_)
    refine gs Try.func18 #[.agg #[.slice az ac.length aA, .slice aB ad.length aC]] ?_
    with_reducible refine (laws_toGraph.calls k _ _ ac _ _ ad aS aY _ ?Z ?aa ?ag ?al cP.out).mono ?_
    (case Z => exact Kd.C_below a8.out (bs HB.out))
    (case aa => exact a9.out)
    (case ag => exact Kd.C_below ba.out (bs HB.out))
    (case al => exact bc.out)
    rintro e d7 ⟨d8, d9, rfl, L, aD, hb⟩
    refine ⟨_, rfl, ?_⟩
    have J := am (Kd.R_lower L (below_size (bs HB.out)))
    have O := am (Kd.R_lower aD (below_size (bs HB.out)))
    replace s := bb s hb rfl
    replace y := bb y hb rfl
    replace HB := hs HB hb
    (try clear hb)
    (try clear hb2)
    (try clear hk)
    (try clear hi)
    (try clear L)
    (try clear aD)
    refine hK.out _ _ ⟨cx s 0, cx s 1, cx y 0, cx y 1⟩ (fun hHeld => ?_)
    clear hK K
    refine nrm 19 ?_
    refine on 3 21 (fun K hK => ?_)
    refine gs Try.func19 #[.agg #[.int .i64 an, .int .i64 ao]] ?_
    with_reducible refine (laws_toNode.calls an ao bQ bR _ cQ.out).mono ?_
    rintro e ea ⟨rfl, hb⟩
    refine ⟨_, rfl, ?_⟩
    replace J := rb J hb
    replace O := rb O hb
    replace s := bb s hb rfl
    replace y := bb y hb rfl
    replace HB := hs HB hb
    (try clear hb)
    (try clear hb2)
    (try clear hk)
    (try clear hi)
    obtain ⟨aZ, a4, co⟩ := Kd.R_slice J.out
    (first | subst co | (injection co with av aL aw; have aM := av.symm; have aN := aw.symm; clear av aL aw; subst aM; subst aN))
    obtain ⟨bG, bH, cp⟩ := Kd.R_slice O.out
    (first | subst cp | (injection cp with av aL aw; have aM := av.symm; have aN := aw.symm; clear av aL aw; subst aM; subst aN))
    refine hK.out _ _ ⟨cx s 0, cx s 1, cx y 0, cx y 1⟩ (fun hHeld => ?_)
    clear hK K
    refine nrm 21 ?_
    refine on 4 22 (fun K hK => ?_)
    refine gs Try.func54 #[.agg #[.slice aZ aS.length a4, .slice bG aY.length bH], .agg #[.int .i64 bQ, .int .i64 bR]] ?_
    with_reducible refine (spec_GraphNear.calls k _ _ aS _ _ aY bQ bR ah _ ?Z ?aa ?ag ?al cR.out).mono ?_
    (case Z => exact cr J)
    (case aa => exact cc J)
    (case ag => exact cr O)
    (case al => exact cc O)
    rintro e da ⟨bX, rfl, L, hb⟩
    refine ⟨_, rfl, ?_⟩
    replace O := rb O hb
    have M := am (Kd.R_lower (Kd.R_new' L (rk J)) (below_size (bs HB.out)))
    replace J := re J L hb
    replace s := bb s hb rfl
    replace y := bb y hb rfl
    replace HB := hs HB hb
    (try clear hb)
    (try clear hb2)
    (try clear hk)
    (try clear hi)
    (try clear L)
    refine hK.out _ _ ⟨cx s 0, cx s 1, cx y 0, cx y 1⟩ (fun hHeld => ?_)
    clear hK K
    refine nrm 22 ?_
    refine pu 5 6 ?_
    refine dn ?_
    obtain ⟨db, dc⟩ := bc2 (w := da) s.out
    have dd := blk_frozen s.out
    try go_wp2_with (first | ((with_reducible refine gc 18 rfl ?_); refine gl 24 Try.func18 #[.agg #[.slice az ac.length aA, .slice aB ad.length aC]] ?_; (with_reducible refine (laws_toGraph.calls k _ _ ac _ _ ad I ae _ ?Z ?aa ?ag ?al cS.out).mono ?_); (case Z => exact Kd.C_below a8.out (bs HB.out)); (case aa => exact a9.out); (case ag => exact Kd.C_below ba.out (bs HB.out)); (case al => exact bc.out); rintro e eb ⟨ec, ed, rfl, L, aD, hb⟩; refine ⟨_, rfl, ?_⟩; have G := am (Kd.R_lower (Kd.R_new' (Kd.R_new' L (rk J)) (rk M)) (below_size (bs HB.out))); replace J := re J L hb; replace M := re M L hb; have D := am (Kd.R_lower (Kd.R_new' aD (rk O)) (below_size (bs HB.out))); replace O := re O aD hb; replace s := bb s hb rfl; replace y := bb y hb rfl; replace HB := hs HB hb; (try clear L aD hb)) | ((with_reducible refine gd 7 rfl ?_); refine bx 7 (cs := #[.slice none 0 0, .slice none 0 0]) (t := 34) ?_; intro ai hg aO hbox hb; replace J := rb J hb; replace O := rb O hb; replace M := rb M hb; replace G := rb G hb; replace D := rb D hb; have z := am hbox; have ee := gwb HB hg; replace HB := hs HB hb; have de := nq s hg; have df := nq' s hg; replace s := bb s hb rfl; have dg := nq y hg; have dh := nq' y hg; replace y := bb y hb rfl; clear hb hbox hg; obtain ⟨X, Y, di⟩ := Kd.R_slice G.out; subst di; have ef := df.out; have eg := de.out; have eh := dh.out; have ei := dg.out; obtain ⟨dj, dk⟩ := bc2 (w := aO) z.out; have dl := blk_frozen z.out; obtain ⟨aj, ak, dm⟩ := Kd.R_slice D.out; subst dm))
    have bh : Aside0 (Kd.R k36 36 ((aO.setCell ⟨ai, 0, none⟩ (.slice X I.length Y)).setCell ⟨ai, 1, none⟩ (.slice aj ae.length ak)) w.heap.size (fun k_ => some k_ ≠ (bX : Value).ownBlock ∧ some k_ ≠ (.slice X I.length Y : Value).ownBlock) (.slice aZ aS.length a4) aS) := ⟨Kd.R_mono (rt J.out z.out (by decide)) (fun _ hk => ⟨hk.1.2, hk.2⟩)⟩
    have bi : Aside0 (Kd.R k56 56 ((aO.setCell ⟨ai, 0, none⟩ (.slice X I.length Y)).setCell ⟨ai, 1, none⟩ (.slice aj ae.length ak)) w.heap.size (fun k_ => some k_ ≠ (.slice aj ae.length ak : Value).ownBlock) (.slice bG aY.length bH) aY) := ⟨Kd.R_mono (rt O.out z.out (by decide)) (fun _ hk => hk.2)⟩
    have bj : Aside0 (Kd.R k36 36 ((aO.setCell ⟨ai, 0, none⟩ (.slice X I.length Y)).setCell ⟨ai, 1, none⟩ (.slice aj ae.length ak)) w.heap.size (fun k_ => some k_ ≠ (.slice aZ aS.length a4 : Value).ownBlock ∧ some k_ ≠ (.slice X I.length Y : Value).ownBlock) bX ah) := ⟨Kd.R_mono (rt M.out z.out (by decide)) (fun _ hk => ⟨hk.1.2, hk.2⟩)⟩
    have bk : Aside0 (Kd.R k36 36 ((aO.setCell ⟨ai, 0, none⟩ (.slice X I.length Y)).setCell ⟨ai, 1, none⟩ (.slice aj ae.length ak)) w.heap.size (fun k_ => some k_ ≠ (.slice aZ aS.length a4 : Value).ownBlock ∧ some k_ ≠ (bX : Value).ownBlock) (.slice X I.length Y) I) := ⟨Kd.R_mono (rt G.out z.out (by decide)) (fun _ hk => ⟨hk.1.2, hk.2⟩)⟩
    have bl : Aside0 (Kd.R k56 56 ((aO.setCell ⟨ai, 0, none⟩ (.slice X I.length Y)).setCell ⟨ai, 1, none⟩ (.slice aj ae.length ak)) w.heap.size (fun k_ => some k_ ≠ (.slice bG aY.length bH : Value).ownBlock) (.slice aj ae.length ak) ae) := ⟨Kd.R_mono (rt D.out z.out (by decide)) (fun _ hk => hk.2)⟩
    have bm : Aside0 (((aO.setCell ⟨ai, 0, none⟩ (.slice X I.length Y)).setCell ⟨ai, 1, none⟩ (.slice aj ae.length ak)).heap[aQ]? = some (.cells #[.slice az ac.length aA, .slice aB ad.length aC] 25 (0, 0))) := ⟨bf s.out⟩
    have bn : Aside0 (((aO.setCell ⟨ai, 0, none⟩ (.slice X I.length Y)).setCell ⟨ai, 1, none⟩ (.slice aj ae.length ak)).heap[aR]? = some (.cells #[.int .i64 an, .int .i64 ao] 27 (0, 0))) := ⟨bf y.out⟩
    have bo : Aside0 (((aO.setCell ⟨ai, 0, none⟩ (.slice X I.length Y)).setCell ⟨ai, 1, none⟩ (.slice aj ae.length ak)).heap[ai]? = some (.cells #[.slice X I.length Y, .slice aj ae.length ak] 34 (0, 0))) := ⟨by (with_reducible repeat (first | refine blk_drewN ?_ _ | refine blk_drew ?_ | refine blk_alloc ?_ _)); refine blk_put (cs := #[.slice X I.length Y, .slice none 0 0]) ?_ 1 _ rfl; (with_reducible repeat (first | refine blk_drewN ?_ _ | refine blk_drew ?_ | refine blk_alloc ?_ _)); refine blk_put (cs := #[.slice none 0 0, .slice none 0 0]) ?_ 0 _ rfl; exact bf z.out⟩
    have bY : Aside0 (Below w.heap.size w ((aO.setCell ⟨ai, 0, none⟩ (.slice X I.length Y)).setCell ⟨ai, 1, none⟩ (.slice aj ae.length ak))) := ⟨bs HB.out⟩
    (try clear J)
    (try clear O)
    (try clear M)
    (try clear G)
    (try clear D)
    (try clear s)
    (try clear y)
    (try clear z)
    (try clear HB)
    generalize ((aO.setCell ⟨ai, 0, none⟩ (.slice X I.length Y)).setCell ⟨ai, 1, none⟩ (.slice aj ae.length ak)) = dp at bh bi bj bk bl bm bn bo bY ⊢
    have J := bh
    have O := bi
    have M := bj
    have G := bk
    have D := bl
    have s := bm
    have y := bn
    have z := bo
    have HB := bY
    clear bh bi bj bk bl bm bn bo bY
    replace J := rd_ J
    replace O := rd_ O
    replace M := rd_ M
    replace G := rd_ G
    replace D := rd_ D
    replace s := bd s
    replace y := bd y
    replace z := bd z
    replace HB := hd HB
    refine sta 5 (fun w' => w'.cell? ⟨ai, 0, none⟩ = some (.slice X I.length Y) ∧ w'.cell? ⟨ai, 1, none⟩ = some (.slice aj ae.length ak) ∧ w'.cell? ⟨aR, 0, none⟩ = some (.int .i64 an) ∧ w'.cell? ⟨aR, 1, none⟩ = some (.int .i64 ao)) [] ⟨cx z 0, cx z 1, cx y 0, cx y 1⟩ (fun hHeld => ?_)
    generalize dp.drew = ej at J O M G D s y z HB hHeld ⊢
    refine tk 0 25 ?_
    refine tk 1 26 ?_
    refine on 2 27 (fun K hK => ?_)
    refine gs Try.func19 #[.agg #[.int .i64 an, .int .i64 ao]] ?_
    with_reducible refine (laws_toNode.calls an ao bS bT _ cT.out).mono ?_
    rintro e ek ⟨rfl, hb⟩
    refine ⟨_, rfl, ?_⟩
    replace J := rb J hb
    replace O := rb O hb
    replace M := rb M hb
    replace G := rb G hb
    replace D := rb D hb
    replace s := bb s hb rfl
    replace y := bb y hb rfl
    replace z := bb z hb rfl
    replace HB := hs HB hb
    (try clear hb)
    (try clear hb2)
    (try clear hk)
    (try clear hi)
    refine hK.out _ _ ⟨cx z 0, cx z 1, cx y 0, cx y 1⟩ (fun hHeld => ?_)
    clear hK K
    refine nrm 27 ?_
    refine on 3 28 (fun K hK => ?_)
    refine gs Try.func55 #[.agg #[.slice X I.length Y, .slice aj ae.length ak], .agg #[.int .i64 bS, .int .i64 bT]] ?_
    with_reducible refine (impl_GraphNear.calls k _ _ I _ _ ae bS bT af _ ?Z ?aa ?ag ?al cU.out).mono ?_
    (case Z => exact cr G)
    (case aa => exact cc G)
    (case ag => exact cr D)
    (case al => exact cc D)
    rintro e el ⟨em, rfl, L, hb⟩
    refine ⟨_, rfl, ?_⟩
    replace O := rb O hb
    replace D := rb D hb
    have aq := am (Kd.R_lower (Kd.R_new' (Kd.R_new' (Kd.R_new' L (rk J)) (rk M)) (rk G)) (below_size (bs HB.out)))
    replace J := re J L hb
    replace M := re M L hb
    replace G := re G L hb
    replace s := bb s hb rfl
    replace y := bb y hb rfl
    replace z := bb z hb rfl
    replace HB := hs HB hb
    (try clear hb)
    (try clear hb2)
    (try clear hk)
    (try clear hi)
    (try clear L)
    refine hK.out _ _ ⟨cx z 0, cx z 1, cx y 0, cx y 1⟩ (fun hHeld => ?_)
    clear hK K
    refine nrm 28 ?_
    refine pu 4 8 ?_
    refine dn ?_
    obtain ⟨ax, ay, dq⟩ := Kd.R_slice aq.out
    subst dq
    obtain ⟨aG, aH, dr⟩ := Kd.R_slice M.out
    subst dr
    try go_wp2_with (first | ((with_reducible refine gc 21 rfl ?_); refine gl 31 Try.func21 #[.slice ax af.length ay, .slice aG ah.length aH] ?_; (with_reducible refine (laws_eqNodeS.calls k _ _ af _ _ ah true _ ?Z ?aa ?ag ?al cW.out).mono ?_); (case Z => exact cr aq); (case aa => exact cc aq); (case ag => exact cr M); (case al => exact cc M); rintro e dt ⟨rfl, hb⟩; refine ⟨_, rfl, ?_⟩; replace J := rb J hb; replace O := rb O hb; replace M := rb M hb; replace G := rb G hb; replace D := rb D hb; replace aq := rb aq hb; replace s := bb s hb rfl; replace y := bb y hb rfl; replace z := bb z hb rfl; replace HB := hs HB hb; (try clear hb)))
    replace J := rd_ J
    replace O := rd_ O
    replace M := rd_ M
    replace G := rd_ G
    replace D := rd_ D
    replace aq := rd_ aq
    replace s := bd s
    replace y := bd y
    replace z := bd z
    replace HB := hd HB
    refine sta 5 (fun w' => w'.cell? ⟨ai, 0, none⟩ = some (.slice X I.length Y) ∧ w'.cell? ⟨ai, 1, none⟩ = some (.slice aj ae.length ak) ∧ w'.cell? ⟨aQ, 0, none⟩ = some (.slice az ac.length aA) ∧ w'.cell? ⟨aQ, 1, none⟩ = some (.slice aB ad.length aC)) [] ⟨cx z 0, cx z 1, cx s 0, cx s 1⟩ (fun hHeld => ?_)
    generalize dt.drew = en at J O M G D aq s y z HB hHeld ⊢
    refine tk 0 33 ?_
    refine tk 1 34 ?_
    refine on 2 35 (fun K hK => ?_)
    refine gs Try.func18 #[.agg #[.slice az ac.length aA, .slice aB ad.length aC]] ?_
    with_reducible refine (laws_toGraph.calls k _ _ ac _ _ ad bg bE _ ?Z ?aa ?ag ?al cX.out).mono ?_
    (case Z => exact Kd.C_below a8.out (bs HB.out))
    (case aa => exact a9.out)
    (case ag => exact Kd.C_below ba.out (bs HB.out))
    (case al => exact bc.out)
    rintro e eo ⟨ep, eq, rfl, L, aD, hb⟩
    refine ⟨_, rfl, ?_⟩
    have aU := am (Kd.R_lower (Kd.R_new' (Kd.R_new' (Kd.R_new' (Kd.R_new' L (rk J)) (rk M)) (rk G)) (rk aq)) (below_size (bs HB.out)))
    replace J := re J L hb
    replace M := re M L hb
    replace G := re G L hb
    replace aq := re aq L hb
    have aV := am (Kd.R_lower (Kd.R_new' (Kd.R_new' aD (rk O)) (rk D)) (below_size (bs HB.out)))
    replace O := re O aD hb
    replace D := re D aD hb
    replace s := bb s hb rfl
    replace y := bb y hb rfl
    replace z := bb z hb rfl
    replace HB := hs HB hb
    (try clear hb)
    (try clear hb2)
    (try clear hk)
    (try clear hi)
    (try clear L)
    (try clear aD)
    obtain ⟨bI, bJ, ct⟩ := Kd.R_slice aU.out
    (first | subst ct | (injection ct with av aL aw; have aM := av.symm; have aN := aw.symm; clear av aL aw; subst aM; subst aN))
    obtain ⟨cu, cv, cy⟩ := Kd.R_slice aV.out
    (first | subst cy | (injection cy with av aL aw; have aM := av.symm; have aN := aw.symm; clear av aL aw; subst aM; subst aN))
    refine hK.out _ _ ⟨cx z 0, cx z 1, cx s 0, cx s 1⟩ (fun hHeld => ?_)
    clear hK K
    refine nrm 35 ?_
    refine on 3 36 (fun K hK => ?_)
    refine gs Try.func22 #[.agg #[.slice X I.length Y, .slice aj ae.length ak], .agg #[.slice bI bg.length bJ, .slice cu bE.length cv]] ?_
    with_reducible refine (laws_eqGraph.calls k _ _ I _ _ ae _ _ bg _ _ bE true _ ?Z ?aa ?ag ?al ?du ?dv ?dw ?dx cY.out).mono ?_
    (case Z => exact cr G)
    (case aa => exact cc G)
    (case ag => exact cr D)
    (case al => exact cc D)
    (case du => exact cr aU)
    (case dv => exact cc aU)
    (case dw => exact cr aV)
    (case dx => exact cc aV)
    rintro e dy ⟨rfl, hb⟩
    refine ⟨_, rfl, ?_⟩
    replace J := rb J hb
    replace O := rb O hb
    replace M := rb M hb
    replace G := rb G hb
    replace D := rb D hb
    replace aq := rb aq hb
    replace aU := rb aU hb
    replace aV := rb aV hb
    replace s := bb s hb rfl
    replace y := bb y hb rfl
    replace z := bb z hb rfl
    replace HB := hs HB hb
    (try clear hb)
    (try clear hb2)
    (try clear hk)
    (try clear hi)
    refine hK.out _ _ ⟨cx z 0, cx z 1, cx s 0, cx s 1⟩ (fun hHeld => ?_)
    clear hK K
    refine nrm 36 ?_
    refine pu 4 37 ?_
    refine dn ?_
    obtain ⟨dz, dA⟩ := bc2 (w := dy) z.out
    have dB := blk_frozen z.out
    go_upto_region 14 with (first | ((with_reducible refine gc 23 rfl ?_); refine gl 40 Try.func23 #[.agg #[.slice X I.length Y, .slice aj ae.length ak], .int .i64 1] ?_; (with_reducible refine (laws_markGraph.calls k (fun k_ => some k_ = (.slice X I.length Y : Value).ownBlock) (.slice X I.length Y) I (fun k_ => some k_ = (.slice aj ae.length ak : Value).ownBlock) (.slice aj ae.length ak) ae 1 bF aX bA w _ ?Z ?aa ?ag cZ.out).mono ?_); (case Z => exact bs HB.out); (case aa => exact Kd.R_tight rfl G.out); (case ag => exact Kd.R_tight rfl D.out); rintro e er ⟨rfl, bB, cz, hb, hkp⟩; refine ⟨_, rfl, ?_⟩; replace s := am (blk_kept (bf s.out) hkp (fun hs_ => Or.elim hs_ (fun e_ => (fun e_ => (Kd.R_ne G.out s.out (by decide)) e_) e_) (fun e_ => (fun e_ => (Kd.R_ne D.out s.out (by decide)) e_) e_))); replace y := am (blk_kept (bf y.out) hkp (fun hs_ => Or.elim hs_ (fun e_ => (fun e_ => (Kd.R_ne G.out y.out (by decide)) e_) e_) (fun e_ => (fun e_ => (Kd.R_ne D.out y.out (by decide)) e_) e_))); replace J := am (Kd.R_mono (ok' := fun k_ => some k_ ≠ (.slice aG ah.length aH : Value).ownBlock ∧ some k_ ≠ (.slice X I.length Y : Value).ownBlock ∧ some k_ ≠ (.slice ax af.length ay : Value).ownBlock ∧ some k_ ≠ (.slice bI bg.length bJ : Value).ownBlock) (Kd.R_keptB ((Kd.R_apart' J.out (Kd.R_typed D.out) (by decide))) hkp (fun k_ hk_ hs_ => Or.elim hs_ (fun e_ => (hk_.1.1.1.2) e_) (fun e_ => (hk_.2) e_))) (fun k_ hk_ => ⟨hk_.1.1.1.1.1, hk_.1.1.1.1.2, hk_.1.1.1.2, hk_.1.1.2⟩)); replace O := am (Kd.R_mono (ok' := fun k_ => some k_ ≠ (.slice aj ae.length ak : Value).ownBlock ∧ some k_ ≠ (.slice cu bE.length cv : Value).ownBlock) (Kd.R_keptB ((Kd.R_apart' O.out (Kd.R_typed G.out) (by decide))) hkp (fun k_ hk_ hs_ => Or.elim hs_ (fun e_ => (hk_.2) e_) (fun e_ => (hk_.1.1) e_))) (fun k_ hk_ => ⟨hk_.1.1.1, hk_.1.1.2⟩)); replace M := am (Kd.R_mono (ok' := fun k_ => some k_ ≠ (.slice aZ aS.length a4 : Value).ownBlock ∧ some k_ ≠ (.slice X I.length Y : Value).ownBlock ∧ some k_ ≠ (.slice ax af.length ay : Value).ownBlock ∧ some k_ ≠ (.slice bI bg.length bJ : Value).ownBlock) (Kd.R_keptB ((Kd.R_apart' M.out (Kd.R_typed D.out) (by decide))) hkp (fun k_ hk_ hs_ => Or.elim hs_ (fun e_ => (hk_.1.1.1.2) e_) (fun e_ => (hk_.2) e_))) (fun k_ hk_ => ⟨hk_.1.1.1.1.1, hk_.1.1.1.1.2, hk_.1.1.1.2, hk_.1.1.2⟩)); replace z := am (blk_kept (bf z.out) hkp (fun hs_ => Or.elim hs_ (fun e_ => (fun e_ => (Kd.R_ne G.out z.out (by decide)) e_) e_) (fun e_ => (fun e_ => (Kd.R_ne D.out z.out (by decide)) e_) e_))); replace aq := am (Kd.R_mono (ok' := fun k_ => some k_ ≠ (.slice aZ aS.length a4 : Value).ownBlock ∧ some k_ ≠ (.slice aG ah.length aH : Value).ownBlock ∧ some k_ ≠ (.slice X I.length Y : Value).ownBlock ∧ some k_ ≠ (.slice bI bg.length bJ : Value).ownBlock) (Kd.R_keptB ((Kd.R_apart' aq.out (Kd.R_typed D.out) (by decide))) hkp (fun k_ hk_ hs_ => Or.elim hs_ (fun e_ => (hk_.1.1.2) e_) (fun e_ => (hk_.2) e_))) (fun k_ hk_ => ⟨hk_.1.1.1.1.1.2, hk_.1.1.1.1.2, hk_.1.1.1.2, hk_.1.1.2⟩)); replace aU := am (Kd.R_mono (ok' := fun k_ => some k_ ≠ (.slice aZ aS.length a4 : Value).ownBlock ∧ some k_ ≠ (.slice aG ah.length aH : Value).ownBlock ∧ some k_ ≠ (.slice X I.length Y : Value).ownBlock ∧ some k_ ≠ (.slice ax af.length ay : Value).ownBlock) (Kd.R_keptB ((Kd.R_apart' aU.out (Kd.R_typed D.out) (by decide))) hkp (fun k_ hk_ hs_ => Or.elim hs_ (fun e_ => (hk_.1.1.2) e_) (fun e_ => (hk_.2) e_))) (fun k_ hk_ => ⟨hk_.1.1.1.1.1.2, hk_.1.1.1.1.2, hk_.1.1.1.2, hk_.1.1.2⟩)); replace D := am (Kd.R_reok rfl cz (fun k_ e_ => D.out.1 k_ e_)); replace aV := am (Kd.R_mono (ok' := fun k_ => some k_ ≠ (.slice bG aY.length bH : Value).ownBlock ∧ some k_ ≠ (.slice aj ae.length ak : Value).ownBlock) (Kd.R_keptB ((Kd.R_apart' aV.out (Kd.R_typed G.out) (by decide))) hkp (fun k_ hk_ hs_ => Or.elim hs_ (fun e_ => (hk_.2) e_) (fun e_ => (hk_.1.2) e_))) (fun k_ hk_ => ⟨hk_.1.1.1.2, hk_.1.1.2⟩)); replace G := am (Kd.R_reok rfl bB (fun k_ e_ => G.out.1 k_ e_)); replace HB := am hb; (try clear hb hkp); (try clear bB); (try clear cz)))
    (try simp only [Act.put, List.setIfInBounds_toArray, List.set_cons_zero, List.set_cons_succ])
    go_cut [48] (fun dC wc => ∃ (kq : Nat) (bK : Bool), dC = .bool bK ∧ Aside0 (laws_FnExactGraphNear.j0 kq ah af bK ac ad an ao = some r) ∧ Aside0 (kq ≤ k) ∧ Aside0 (Kd.R k36 36 wc w.heap.size (fun k_ => some k_ ≠ ((.slice ax af.length ay) : Value).ownBlock ∧ some k_ ≠ ((.slice X I.length Y) : Value).ownBlock) (.slice aG ah.length aH) ah) ∧ Aside0 (Kd.R k36 36 wc w.heap.size (fun k_ => some k_ ≠ ((.slice aG ah.length aH) : Value).ownBlock ∧ some k_ ≠ ((.slice X I.length Y) : Value).ownBlock) (.slice ax af.length ay) af) ∧ Aside0 (Kd.R k36 36 wc w.heap.size (fun k_ => some k_ ≠ ((.slice aG ah.length aH) : Value).ownBlock ∧ some k_ ≠ ((.slice ax af.length ay) : Value).ownBlock) (.slice X I.length Y) aX) ∧ Aside0 (Kd.R k56 56 wc w.heap.size (fun _ => True) (.slice aj ae.length ak) bA) ∧ Aside0 (wc.heap[aQ]? = some (.cells #[(.slice az ac.length aA), (.slice aB ad.length aC)] 25 (0, 0))) ∧ Aside0 (wc.heap[aR]? = some (.cells #[.int .i64 an, .int .i64 ao] 27 (0, 0))) ∧ Aside0 (wc.heap[ai]? = some (.cells #[(.slice X I.length Y), (.slice aj ae.length ak)] 34 (0, 0))) ∧ Aside0 (Below w.heap.size w wc))
    case first =>
     have H := bW.out
     clear bW
     by_cases a5 : bF < 0
     ·rw [if_pos a5] at H
      have br : decide (bF < 0) = true := decide_eq_true a5
      clear a5
      (first | rw [br] | (simp only [i64_w, i32_w]; rw [br]) | skip)
      have H' := am H
      clear H
      go_wp2
      go_meet
      case rel => exact ⟨_, (true), eqs, H', ⟨by first | omega | exact Nat.le_refl _⟩, ⟨by (with_reducible repeat (first | apply Kd.R_alloc | apply Kd.R_drewN | apply Kd.R_drew)); exact Kd.R_mono M.out (fun _ hk => ⟨hk.2.2.1, hk.2.1⟩)⟩, ⟨by (with_reducible repeat (first | apply Kd.R_alloc | apply Kd.R_drewN | apply Kd.R_drew)); exact Kd.R_mono aq.out (fun _ hk => ⟨hk.2.1, hk.2.2.1⟩)⟩, ⟨by (with_reducible repeat (first | apply Kd.R_alloc | apply Kd.R_drewN | apply Kd.R_drew)); exact Kd.R_mono G.out (fun _ hk => ⟨hk.1.1.2, hk.1.2⟩)⟩, ⟨by (with_reducible repeat (first | apply Kd.R_alloc | apply Kd.R_drewN | apply Kd.R_drew)); exact Kd.R_mono D.out (fun _ hk => trivial)⟩, ⟨bf s.out⟩, ⟨bf y.out⟩, ⟨bf z.out⟩, ⟨bs HB.out⟩⟩
     ·rw [if_neg a5] at H
      have br : decide (bF < 0) = false := decide_eq_false a5
      clear a5
      (first | rw [br] | (simp only [i64_w, i32_w]; rw [br]) | skip)
      replace H := Option.bind_eq_some_iff.mp H
      obtain ⟨be, cA, H⟩ := H
      try dsimp -simprocs only at H
      have dD := am cA
      clear cA
      have H' := am H
      clear H
      go_wp2_with (first | (go_at_call 21; (with_reducible refine (laws_eqNodeS.calls k _ _ af _ _ ah be _ ?Z ?aa ?ag ?al dD.out).mono ?_); (case Z => exact cr aq); (case aa => exact cc aq); (case ag => exact cr M); (case al => exact cc M); rintro e es ⟨rfl, hb⟩; replace J := rb J hb; replace O := rb O hb; replace M := rb M hb; replace G := rb G hb; replace D := rb D hb; replace aq := rb aq hb; replace aU := rb aU hb; replace aV := rb aV hb; replace s := bb s hb rfl; replace y := bb y hb rfl; replace z := bb z hb rfl; replace HB := hs HB hb; (try clear hb)))
      go_meet
      case rel => exact ⟨_, (!be), eqs, H', ⟨by first | omega | exact Nat.le_refl _⟩, ⟨by (with_reducible repeat (first | apply Kd.R_alloc | apply Kd.R_drewN | apply Kd.R_drew)); exact Kd.R_mono M.out (fun _ hk => ⟨hk.2.2.1, hk.2.1⟩)⟩, ⟨by (with_reducible repeat (first | apply Kd.R_alloc | apply Kd.R_drewN | apply Kd.R_drew)); exact Kd.R_mono aq.out (fun _ hk => ⟨hk.2.1, hk.2.2.1⟩)⟩, ⟨by (with_reducible repeat (first | apply Kd.R_alloc | apply Kd.R_drewN | apply Kd.R_drew)); exact Kd.R_mono G.out (fun _ hk => ⟨hk.1.1.2, hk.1.2⟩)⟩, ⟨by (with_reducible repeat (first | apply Kd.R_alloc | apply Kd.R_drewN | apply Kd.R_drew)); exact Kd.R_mono D.out (fun _ hk => trivial)⟩, ⟨bf s.out⟩, ⟨bf y.out⟩, ⟨bf z.out⟩, ⟨bs HB.out⟩⟩
    case rest =>
     clear bW
     try clear c1
     try clear c2
     try clear p2
     try clear c3
     try clear c5
     try clear et
     try clear eu
     try clear bw
     try clear ev
     try clear ew
     try clear bz
     try clear ex
     try clear ey
     try clear ez
     try clear eA
     try clear eB
     try clear eC
     try clear eD
     try clear eE
     try clear a5
     try clear br
     try clear c6 c7
     try clear db dc
     try clear dj dk
     try clear dz dA
     try clear c8
     try clear dd
     try clear dl
     try clear dB
     obtain ⟨kq, bK, rfl, HA, eF, ap, ab, ar, au, s, y, z, HB⟩ := hcut
     have hl325000_21 := (Kd.R_reads' ar.out).1
     rw [hl325000_21] at ar
     (try simp only [hl325000_21])
     (try simp only [hl325000_21] at s)
     (try simp only [hl325000_21] at y)
     (try simp only [hl325000_21] at z)
     (try simp only [hl325000_21] at ap)
     (try simp only [hl325000_21] at ab)
     (try simp only [hl325000_21] at au)
     have hl325001_21 := (Kd.R_reads' au.out).1
     rw [hl325001_21] at au
     (try simp only [hl325001_21])
     (try simp only [hl325001_21] at s)
     (try simp only [hl325001_21] at y)
     (try simp only [hl325001_21] at z)
     (try simp only [hl325001_21] at ap)
     (try simp only [hl325001_21] at ab)
     (try simp only [hl325001_21] at ar)
     cases kq with
     | zero => exact absurd HA.out (by simp [laws_FnExactGraphNear.j0])
     | succ aF =>
      have H := HA.out
      clear HA
      simp only [laws_FnExactGraphNear.j0] at H
      by_cases bL : bK = true
      ·subst bL
       replace H : (some false) = some r := by rw [if_pos rfl] at H; exact H
       exact absurd (Option.some.inj H) (by rw [hT.out]; decide)
      ·replace bL := Bool.eq_false_iff.mpr bL
       subst bL
       have H1 : ((laws_markNodeS.f aF af 1).bind fun bM => ((laws_heldNodeS.f aF bM.2 1).bind fun aI => (if aI < 0 then (some false) else (if aI = bM.1 then ((laws_toGraph.f aF ac ad).bind fun cB => ((laws_toNode.f an ao).bind fun cC => ((impl_GraphNear.f aF cB.1 cB.2 cC.1 cC.2).bind fun bC => ((laws_eqNodeS.f aF bC ah).bind fun bZ => (if bZ = true then ((laws_heldNodeS.f aF bM.2 1).bind fun aE => (if aE < 0 then (some false) else (if aE = bM.1 then (some true) else (some false)))) else (some false)))))) else (some false))))) = some r := by rw [if_neg (show ¬ (false = true) by decide)] at H; exact H
       clear H
       have H := H1
       clear H1
       replace H := Option.bind_eq_some_iff.mp H
       obtain ⟨⟨aJ, aP⟩, cD, H⟩ := H
       try dsimp -simprocs only at H
       have dE := am cD
       clear cD
       replace H := Option.bind_eq_some_iff.mp H
       obtain ⟨aI, cE, H⟩ := H
       try dsimp -simprocs only at H
       have dF := am cE
       clear cE
       by_cases bt : aI < 0
       ·rw [if_pos bt] at H
        have dG : decide (aI < 0) = true := decide_eq_true bt
        clear bt
        exact absurd (Option.some.inj H) (by rw [hT.out]; decide)
       ·rw [if_neg bt] at H
        have dG : decide (aI < 0) = false := decide_eq_false bt
        clear bt
        by_cases a6 : aI = aJ
        ·rw [if_pos a6] at H
         have dH : (aI == aJ) = true := beq_iff_eq.mpr a6
         have dI : (aI != aJ) = false := bne_eq_false_iff_eq.mpr a6
         clear a6
         replace H := Option.bind_eq_some_iff.mp H
         obtain ⟨⟨b0, b1⟩, cF, H⟩ := H
         try dsimp -simprocs only at H
         have dJ := am cF
         clear cF
         replace H := Option.bind_eq_some_iff.mp H
         obtain ⟨⟨b2, b3⟩, cG, H⟩ := H
         try dsimp -simprocs only at H
         have dK := am cG
         clear cG
         replace H := Option.bind_eq_some_iff.mp H
         obtain ⟨bC, cH, H⟩ := H
         try dsimp -simprocs only at H
         have dL := am cH
         clear cH
         replace H := Option.bind_eq_some_iff.mp H
         obtain ⟨bZ, cI, H⟩ := H
         try dsimp -simprocs only at H
         have dM := am cI
         clear cI
         by_cases bN : bZ = true
         ·subst bN
          replace H : ((laws_heldNodeS.f aF aP 1).bind fun aE => (if aE < 0 then (some false) else (if aE = aJ then (some true) else (some false)))) = some r := by rw [if_pos rfl] at H; exact H
          replace H := Option.bind_eq_some_iff.mp H
          obtain ⟨aE, cJ, H⟩ := H
          try dsimp -simprocs only at H
          have dN := am cJ
          clear cJ
          by_cases bu : aE < 0
          ·rw [if_pos bu] at H
           have dO : decide (aE < 0) = true := decide_eq_true bu
           clear bu
           exact absurd (Option.some.inj H) (by rw [hT.out]; decide)
          ·rw [if_neg bu] at H
           have dO : decide (aE < 0) = false := decide_eq_false bu
           clear bu
           by_cases a7 : aE = aJ
           ·rw [if_pos a7] at H
            have dP : (aE == aJ) = true := beq_iff_eq.mpr a7
            have dQ : (aE != aJ) = false := bne_eq_false_iff_eq.mpr a7
            clear a7
            obtain rfl := Option.some.inj H
            try go_wp2_with (first | ((with_reducible refine gc 24 rfl ?_); refine gl 51 Try.func24 #[.slice ax af.length ay, .int .i64 1] ?_; (with_reducible refine (laws_markNodeS.calls aF (fun k_ => some k_ = (.slice ax af.length ay : Value).ownBlock) (.slice ax af.length ay) af 1 aJ aP w _ ?Z ?aa dE.out).mono ?_); (case Z => exact bs HB.out); (case aa => exact Kd.R_tight rfl ab.out); rintro e aK ⟨rfl, bB, hb, hkp⟩; refine ⟨_, rfl, ?_⟩; replace ap := am (Kd.R_mono (ok' := fun k_ => some k_ ≠ (.slice ax af.length ay : Value).ownBlock ∧ some k_ ≠ (.slice X aX.length Y : Value).ownBlock) (Kd.R_keptB (ap.out) hkp (fun k_ hk_ hs_ => (hk_.1) hs_)) (fun k_ hk_ => ⟨hk_.1.1, hk_.1.2⟩)); replace ar := am (Kd.R_mono (ok' := fun k_ => some k_ ≠ (.slice aG ah.length aH : Value).ownBlock ∧ some k_ ≠ (.slice ax af.length ay : Value).ownBlock) (Kd.R_keptB (ar.out) hkp (fun k_ hk_ hs_ => (hk_.2) hs_)) (fun k_ hk_ => ⟨hk_.1.1, hk_.1.2⟩)); replace au := am (Kd.R_mono (ok' := fun k_ => True) (Kd.R_keptB ((Kd.R_apart' au.out (Kd.R_typed ab.out) (by decide))) hkp (fun k_ hk_ hs_ => (hk_.2) hs_)) (fun k_ hk_ => trivial)); replace s := am (blk_kept (bf s.out) hkp (fun hs_ => (fun e_ => (Kd.R_ne ab.out s.out (by decide)) e_) hs_)); replace y := am (blk_kept (bf y.out) hkp (fun hs_ => (fun e_ => (Kd.R_ne ab.out y.out (by decide)) e_) hs_)); replace z := am (blk_kept (bf z.out) hkp (fun hs_ => (fun e_ => (Kd.R_ne ab.out z.out (by decide)) e_) hs_)); replace ab := am (Kd.R_reok rfl bB (fun k_ e_ => ab.out.1 k_ e_)); replace HB := am hb; (try clear hb hkp); (try clear bB)) | ((with_reducible refine gc 25 rfl ?_); refine goesL_ (some 54) rfl rfl Try.func25 (by kernel_rfl) rfl #[.slice ax aP.length ay, .int .i64 1] rfl (by (try simp only [List.map_toArray, List.map_cons, List.map_nil]); first | done | (rw [show aP.length = af.length from (Kd.R_reads' ab.out).1.symm] <;> rfl) | rfl | (simp only [List.length_drop, List.length_take]; rfl)) ?_; (with_reducible refine (laws_heldNodeS.calls aF _ _ aP 1 aI _ ?Z ?aa dF.out).mono ?_); (case Z => exact cr ab); (case aa => rw [show aP.length = af.length from (Kd.R_reads' ab.out).1.symm]; exact cc ab); rintro e w' ⟨rfl, ⟨nd, rfl⟩⟩; refine ⟨_, rfl, ?_⟩))
            (try (rw [drewN_self aK]; generalize hq_ : World.drewN aK _ = aK; have bh : Aside0 (Kd.R k36 36 aK w.heap.size (fun k_ => some k_ ≠ (.slice aG ah.length aH : Value).ownBlock ∧ some k_ ≠ (.slice ax af.length ay : Value).ownBlock) (.slice X aX.length Y) aX) := ⟨by rw [← hq_]; exact (rl ar.out)⟩; have bi : Aside0 (Kd.R k56 56 aK w.heap.size (fun _ => True) (.slice aj bA.length ak) bA) := ⟨by rw [← hq_]; exact (rl au.out)⟩; have bj : Aside0 (Kd.R k36 36 aK w.heap.size (fun k_ => some k_ ≠ (.slice X aX.length Y : Value).ownBlock ∧ some k_ ≠ (.slice ax af.length ay : Value).ownBlock) (.slice aG ah.length aH) ah) := ⟨by rw [← hq_]; exact (by (with_reducible repeat (first | apply Kd.R_alloc | apply Kd.R_drewN | apply Kd.R_drew)); exact Kd.R_mono ap.out (fun _ hk => ⟨hk.2, hk.1⟩))⟩; have bk : Aside0 (Kd.R k36 36 aK w.heap.size (fun k_ => some k_ ≠ (.slice X aX.length Y : Value).ownBlock ∧ some k_ ≠ (.slice aG ah.length aH : Value).ownBlock) (.slice ax af.length ay) aP) := ⟨by rw [← hq_]; exact (by (with_reducible repeat (first | apply Kd.R_alloc | apply Kd.R_drewN | apply Kd.R_drew)); exact Kd.R_mono ab.out (fun _ hk => ⟨hk.2, hk.1⟩))⟩; have bl : Aside0 (aK.heap[aQ]? = some (.cells #[.slice az ac.length aA, .slice aB ad.length aC] 25 (0, 0))) := ⟨by rw [← hq_]; exact (bf s.out)⟩; have bm : Aside0 (aK.heap[aR]? = some (.cells #[.int .i64 an, .int .i64 ao] 27 (0, 0))) := ⟨by rw [← hq_]; exact (bf y.out)⟩; have bn : Aside0 (aK.heap[ai]? = some (.cells #[.slice X aX.length Y, .slice aj bA.length ak] 34 (0, 0))) := ⟨by rw [← hq_]; exact (bf z.out)⟩; have bo : Aside0 (Below w.heap.size w aK) := ⟨by rw [← hq_]; exact (bs HB.out)⟩; clear ar au ap ab s y z HB hq_; have ar := bh; have au := bi; have ap := bj; have ab := bk; have s := bl; have y := bm; have z := bn; have HB := bo; clear bh bi bj bk bl bm bn bo))
            replace ap := rd_ ap
            replace ab := rd_ ab
            replace ar := rd_ ar
            replace au := rd_ au
            replace s := bd s
            replace y := bd y
            replace z := bd z
            replace HB := hd HB
            refine sta 6 (fun w' => w'.cell? ⟨aQ, 0, none⟩ = some (.slice az ac.length aA) ∧ w'.cell? ⟨aQ, 1, none⟩ = some (.slice aB ad.length aC) ∧ w'.cell? ⟨aR, 0, none⟩ = some (.int .i64 an) ∧ w'.cell? ⟨aR, 1, none⟩ = some (.int .i64 ao)) [] ⟨cx s 0, cx s 1, cx y 0, cx y 1⟩ (fun hHeld => ?_)
            generalize aK.drew = eG at ap ab ar au s y z HB hHeld ⊢
            refine tk 0 60 ?_
            refine tk 2 62 ?_
            refine on 1 61 (fun K hK => ?_)
            refine gs Try.func18 #[.agg #[.slice az ac.length aA, .slice aB ad.length aC]] ?_
            with_reducible refine (laws_toGraph.calls aF _ _ ac _ _ ad b0 b1 _ ?Z ?aa ?ag ?al dJ.out).mono ?_
            (case Z => exact Kd.C_below a8.out (bs HB.out))
            (case aa => exact a9.out)
            (case ag => exact Kd.C_below ba.out (bs HB.out))
            (case al => exact bc.out)
            rintro e eH ⟨eI, eJ, rfl, L, aD, hb⟩
            refine ⟨_, rfl, ?_⟩
            have aT := am (Kd.R_lower (Kd.R_new' (Kd.R_new' (Kd.R_new' L (rk ap)) (rk ab)) (rk ar)) (below_size (bs HB.out)))
            replace ap := re ap L hb
            replace ab := re ab L hb
            replace ar := re ar L hb
            have aW := am (Kd.R_lower (Kd.R_new' aD (rk au)) (below_size (bs HB.out)))
            replace au := re au aD hb
            replace s := bb s hb rfl
            replace y := bb y hb rfl
            replace z := bb z hb rfl
            replace HB := hs HB hb
            (try clear hb)
            (try clear hb2)
            (try clear hk)
            (try clear hi)
            (try clear L)
            (try clear aD)
            refine hK.out _ _ ⟨cx s 0, cx s 1, cx y 0, cx y 1⟩ (fun hHeld => ?_)
            clear hK K
            refine nrm 61 ?_
            refine on 3 63 (fun K hK => ?_)
            refine gs Try.func19 #[.agg #[.int .i64 an, .int .i64 ao]] ?_
            with_reducible refine (laws_toNode.calls an ao b2 b3 _ dK.out).mono ?_
            rintro e eK ⟨rfl, hb⟩
            refine ⟨_, rfl, ?_⟩
            replace ap := rb ap hb
            replace ab := rb ab hb
            replace ar := rb ar hb
            replace au := rb au hb
            replace aT := rb aT hb
            replace aW := rb aW hb
            replace s := bb s hb rfl
            replace y := bb y hb rfl
            replace z := bb z hb rfl
            replace HB := hs HB hb
            (try clear hb)
            (try clear hb2)
            (try clear hk)
            (try clear hi)
            obtain ⟨dR, dS, cK⟩ := Kd.R_slice aT.out
            (first | subst cK | (injection cK with av aL aw; have aM := av.symm; have aN := aw.symm; clear av aL aw; subst aM; subst aN))
            obtain ⟨dT, dU, cL⟩ := Kd.R_slice aW.out
            (first | subst cL | (injection cL with av aL aw; have aM := av.symm; have aN := aw.symm; clear av aL aw; subst aM; subst aN))
            refine hK.out _ _ ⟨cx s 0, cx s 1, cx y 0, cx y 1⟩ (fun hHeld => ?_)
            clear hK K
            refine nrm 63 ?_
            refine on 4 64 (fun K hK => ?_)
            refine gs Try.func55 #[.agg #[.slice dR b0.length dS, .slice dT b1.length dU], .agg #[.int .i64 b2, .int .i64 b3]] ?_
            with_reducible refine (impl_GraphNear.calls aF _ _ b0 _ _ b1 b2 b3 bC _ ?Z ?aa ?ag ?al dL.out).mono ?_
            (case Z => exact cr aT)
            (case aa => exact cc aT)
            (case ag => exact cr aW)
            (case al => exact cc aW)
            rintro e eL ⟨eM, rfl, L, hb⟩
            refine ⟨_, rfl, ?_⟩
            replace au := rb au hb
            replace aW := rb aW hb
            have bD := am (Kd.R_lower (Kd.R_new' (Kd.R_new' (Kd.R_new' (Kd.R_new' L (rk ap)) (rk ab)) (rk ar)) (rk aT)) (below_size (bs HB.out)))
            replace ap := re ap L hb
            replace ab := re ab L hb
            replace ar := re ar L hb
            replace aT := re aT L hb
            replace s := bb s hb rfl
            replace y := bb y hb rfl
            replace z := bb z hb rfl
            replace HB := hs HB hb
            (try clear hb)
            (try clear hb2)
            (try clear hk)
            (try clear hi)
            (try clear L)
            refine hK.out _ _ ⟨cx s 0, cx s 1, cx y 0, cx y 1⟩ (fun hHeld => ?_)
            clear hK K
            refine nrm 64 ?_
            refine pu 5 12 ?_
            refine dn ?_
            obtain ⟨dV, dW, dX⟩ := Kd.R_slice bD.out
            subst dX
            try go_wp2_with (first | ((with_reducible refine gc 21 rfl ?_); refine gl 67 Try.func21 #[.slice dV bC.length dW, .slice aG ah.length aH] ?_; (with_reducible refine (laws_eqNodeS.calls aF _ _ bC _ _ ah true _ ?Z ?aa ?ag ?al dM.out).mono ?_); (case Z => exact cr bD); (case aa => exact cc bD); (case ag => exact cr ap); (case al => exact cc ap); rintro e eN ⟨rfl, hb⟩; refine ⟨_, rfl, ?_⟩; replace ap := rb ap hb; replace ab := rb ab hb; replace ar := rb ar hb; replace au := rb au hb; replace aT := rb aT hb; replace aW := rb aW hb; replace bD := rb bD hb; replace s := bb s hb rfl; replace y := bb y hb rfl; replace z := bb z hb rfl; replace HB := hs HB hb; (try clear hb)) | ((with_reducible refine gc 25 rfl ?_); refine goesL_ (some 71) rfl rfl Try.func25 (by kernel_rfl) rfl #[.slice ax aP.length ay, .int .i64 1] rfl (by (try simp only [List.map_toArray, List.map_cons, List.map_nil]); first | done | (rw [show aP.length = af.length from (Kd.R_reads' ab.out).1.symm] <;> rfl) | rfl | (simp only [List.length_drop, List.length_take]; rfl)) ?_; (with_reducible refine (laws_heldNodeS.calls aF _ _ aP 1 aE _ ?Z ?aa dN.out).mono ?_); (case Z => exact cr ab); (case aa => rw [show aP.length = af.length from (Kd.R_reads' ab.out).1.symm]; exact cc ab); rintro e w' ⟨rfl, ⟨nd, rfl⟩⟩; refine ⟨_, rfl, ?_⟩))
            go_ret
            exact ⟨eqr, bs HB.out⟩
           ·rw [if_neg a7] at H
            have dP : (aE == aJ) = false := beq_eq_false_iff_ne.mpr a7
            have dQ : (aE != aJ) = true := bne_iff_ne.mpr a7
            exact absurd (Option.some.inj H) (by rw [hT.out]; decide)
         ·replace bN := Bool.eq_false_iff.mpr bN
          subst bN
          have H1 : (some false) = some r := by rw [if_neg (show ¬ (false = true) by decide)] at H; exact H
          clear H
          have H := H1
          clear H1
          exact absurd (Option.some.inj H) (by rw [hT.out]; decide)
        ·rw [if_neg a6] at H
         have dH : (aI == aJ) = false := beq_eq_false_iff_ne.mpr a6
         have dI : (aI != aJ) = true := bne_iff_ne.mpr a6
         exact absurd (Option.some.inj H) (by rw [hT.out]; decide)
   ·replace bz := Bool.eq_false_iff.mpr bz
    subst bz
    have H1 : (some false) = some r := by rw [if_neg (show ¬ (false = true) by decide)] at H; exact H
    clear H
    have H := H1
    clear H1
    exact absurd (Option.some.inj H) (by rw [hT.out]; decide)
  ·replace bw := Bool.eq_false_iff.mpr bw
   subst bw
   have H1 : (some false) = some r := by rw [if_neg (show ¬ (false = true) by decide)] at H; exact H
   clear H
   have H := H1
   clear H1
   exact absurd (Option.some.inj H) (by rw [hT.out]; decide)

end Go.Proofs.Ytohmemckdogljaa.QFnExactGraphNear
