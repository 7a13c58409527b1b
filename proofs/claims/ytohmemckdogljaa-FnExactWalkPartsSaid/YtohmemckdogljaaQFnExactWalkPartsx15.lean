/- Contracts of the Go functions that this law reaches: each does what its plain Lean function says. No condition. -/
import Derived.Test.YtohmemckdogljaaQFnExactWalkPartsx0
import Derived.Test.YtohmemckdogljaaQFnExactWalkPartsx2
import Derived.Test.YtohmemckdogljaaQFnExactWalkPartsx3
import Derived.Test.YtohmemckdogljaaQFnExactWalkPartsx8
import Derived.Test.YtohmemckdogljaaQFnExactWalkPartsx14
namespace Go.Proofs.Ytohmemckdogljaa.QFnExactWalkParts
open Go.RowKit Go.Proofs.YtohmemckdogljaaW.PrintWords Go.Proofs.YtohmemckdogljaaW.PrintLast Go.Proofs.YtohmemckdogljaaW.PrintMore Go.Proofs.Ytohmemckdogljaa.Bl
attribute [local go_sem] max2_int min2_int max_two min_two max_three min_three max_four min_four   -- for this text's walks alone
set_option linter.unusedVariables false
set_option linter.unusedSimpArgs false
set_option maxHeartbeats 8000000
set_option maxRecDepth 100000

/-! ### laws_FnExactWalkParts: function 4 -/
def laws_FnExactWalkParts.j0 : Nat → List Int → List Int → Bool → List (S27) → List (S70) → Option (Bool)
 | 0, _, _, _, _, _ => none
 | k + 1, G, I, J, L, M => if J = true then (some false) else ((laws_markIntS.f k I 1).bind fun s => ((laws_heldIntS.f k s.2 1).bind fun y => (if y < 0 then (some false) else (if y = s.1 then ((laws_toGraph.f k L M).bind fun z => ((impl_WalkParts.f k z.1 z.2).bind fun O => ((laws_eqIntS.f k O G).bind fun T => (if T = true then ((laws_heldIntS.f k s.2 1).bind fun D => (if D < 0 then (some false) else (if D = s.1 then (some true) else (some false)))) else (some false))))) else (some false)))))
def laws_FnExactWalkParts.f (k : Nat) (s : List (S27)) (y : List (S70)) : Option (Bool) := (laws_szGraph.f s y 1048576).bind fun L => (if L < 0 then (some true) else ((laws_toGraph.f k s y).bind fun I => ((spec_WalkParts.f k I.1 I.2).bind fun D => ((laws_toGraph.f k s y).bind fun z => ((impl_WalkParts.f k z.1 z.2).bind fun G => ((laws_eqIntS.f k G D).bind fun M => (if M = true then ((laws_toGraph.f k s y).bind fun J => ((laws_eqGraph.f k z.1 z.2 J.1 J.2).bind fun O => (if O = true then ((laws_markGraph.f k z.1 z.2 1).bind fun T => (if T.1 < 0 then (laws_FnExactWalkParts.j0 k D G true s y) else ((laws_eqIntS.f k G D).bind fun X => (laws_FnExactWalkParts.j0 k D G (!X) s y)))) else (some false)))) else (some false))))))))
theorem laws_FnExactWalkParts.calls (k : Nat) (ak : Option Addr) (al : Nat) (J : List (S27)) (an : Option Addr) (ao : Nat) (L : List (S70)) (r : Bool) (hT : Aside0 (r = true)) (w : World) (bB : Kd.C k27 w ak J.length J) (bC : J.length ≤ al) (bD : Kd.C k70 w an L.length L) (bE : L.length ≤ ao) (h : laws_FnExactWalkParts.f k J L = some r) :
  Calls Try.prog 4 #[.agg #[.slice ak J.length al, .slice an L.length ao]] w fun e w' => e = .returned (.bool r) ∧ Below w.heap.size w w' := by
 have hu25 := Try.underlying25
 have hu34 := Try.underlying34
 have aN := am bB
 have aO := am bC
 clear bB bC
 have aP := am bD
 have aQ := am bE
 clear bD bE
 have HB := am (Below.refl w.heap.size w)
 have H := h; unfold laws_FnExactWalkParts.f at H
 clear h
 replace H := Option.bind_eq_some_iff.mp H
 obtain ⟨aW, bF, H⟩ := H
 try dsimp -simprocs only at H
 have A2 := am bF
 clear bF
 by_cases c3 : aW < 0
 ·rw [if_pos c3] at H
  have bG : decide (aW < 0) = true := decide_eq_true c3
  clear c3
  obtain rfl := Option.some.inj H
  go_enter Try.func4, Try.ntmps4
  go_wp2_with (first | ((with_reducible refine gd 1 rfl ?_); refine bx 1 (cs := #[.slice ak J.length al, .slice an L.length ao]) (t := 25) ?_; intro aR hg w4 hbox hb; have s := am hbox; have cm := gwb HB hg; replace HB := hs HB hb; clear hb hbox hg; obtain ⟨cn, co⟩ := bc2 (w := w4) s.out; have cp := blk_frozen s.out) | ((with_reducible refine gc 16 rfl ?_); refine gl 13 Try.func16 #[.agg #[.slice ak J.length al, .slice an L.length ao], .int .i64 1048576] ?_; (with_reducible refine (laws_szGraph.calls _ _ J _ _ L 1048576 aW _ ?z ?D ?O ?Y A2.out).mono ?_); (case z => exact Kd.C_below aN.out (bs HB.out)); (case D => exact aO.out); (case O => exact Kd.C_below aP.out (bs HB.out)); (case Y => exact aQ.out); rintro e w6 ⟨rfl, hb⟩; refine ⟨_, rfl, ?_⟩; replace s := bb s hb rfl; replace HB := hs HB hb; (try clear hb)))
  go_ret
  exact ⟨eqr, bs HB.out⟩
 ·rw [if_neg c3] at H
  have bG : decide (aW < 0) = false := decide_eq_false c3
  clear c3
  replace H := Option.bind_eq_some_iff.mp H
  obtain ⟨⟨aE, aF⟩, bH, H⟩ := H
  try dsimp -simprocs only at H
  have A7 := am bH
  clear bH
  replace H := Option.bind_eq_some_iff.mp H
  obtain ⟨ae, bI, H⟩ := H
  try dsimp -simprocs only at H
  have A8 := am bI
  clear bI
  replace H := Option.bind_eq_some_iff.mp H
  obtain ⟨⟨ab, ac⟩, bJ, H⟩ := H
  try dsimp -simprocs only at H
  have A9 := am bJ
  clear bJ
  replace H := Option.bind_eq_some_iff.mp H
  obtain ⟨M, bK, H⟩ := H
  try dsimp -simprocs only at H
  have ct := am bK
  clear bK
  replace H := Option.bind_eq_some_iff.mp H
  obtain ⟨cu, bL, H⟩ := H
  try dsimp -simprocs only at H
  have cv := am bL
  clear bL
  by_cases aX : cu = true
  ·subst aX
   replace H : ((laws_toGraph.f k J L).bind fun bM => ((laws_eqGraph.f k ab ac bM.1 bM.2).bind fun bm => (if bm = true then ((laws_markGraph.f k ab ac 1).bind fun bn => (if bn.1 < 0 then (laws_FnExactWalkParts.j0 k ae M true J L) else ((laws_eqIntS.f k M ae).bind fun aS => (laws_FnExactWalkParts.j0 k ae M (!aS) J L)))) else (some false)))) = some r := by rw [if_pos rfl] at H; exact H
   replace H := Option.bind_eq_some_iff.mp H
   obtain ⟨⟨bc, be⟩, bN, H⟩ := H
   try dsimp -simprocs only at H
   have cy := am bN
   clear bN
   replace H := Option.bind_eq_some_iff.mp H
   obtain ⟨bm, bO, H⟩ := H
   try dsimp -simprocs only at H
   have cz := am bO
   clear bO
   by_cases aY : bm = true
   ·subst aY
    replace H : ((laws_markGraph.f k ab ac 1).bind fun bn => (if bn.1 < 0 then (laws_FnExactWalkParts.j0 k ae M true J L) else ((laws_eqIntS.f k M ae).bind fun aS => (laws_FnExactWalkParts.j0 k ae M (!aS) J L)))) = some r := by rw [if_pos rfl] at H; exact H
    replace H := Option.bind_eq_some_iff.mp H
    obtain ⟨⟨bg, bP, bQ⟩, bR, H⟩ := H
    try dsimp -simprocs only at H
    have cA := am bR
    clear bR
    have bo := am H
    clear H
    go_enter Try.func4, Try.ntmps4
    try go_wp2_with (first | ((with_reducible refine gd 1 rfl ?_); refine bx 1 (cs := #[.slice ak J.length al, .slice an L.length ao]) (t := 25) ?_; intro aR hg cB hbox hb; have s := am hbox; have cm := gwb HB hg; replace HB := hs HB hb; clear hb hbox hg; obtain ⟨cC, cD⟩ := bc2 (w := cB) s.out; have cE := blk_frozen s.out) | ((with_reducible refine gc 16 rfl ?_); refine gl 13 Try.func16 #[.agg #[.slice ak J.length al, .slice an L.length ao], .int .i64 1048576] ?_; (with_reducible refine (laws_szGraph.calls _ _ J _ _ L 1048576 aW _ ?z ?D ?O ?Y A2.out).mono ?_); (case z => exact Kd.C_below aN.out (bs HB.out)); (case D => exact aO.out); (case O => exact Kd.C_below aP.out (bs HB.out)); (case Y => exact aQ.out); rintro e cF ⟨rfl, hb⟩; refine ⟨_, rfl, ?_⟩; replace s := bb s hb rfl; replace HB := hs HB hb; (try clear hb); obtain ⟨cG, cH⟩ := bc2 (w := cF) s.out; have cI := blk_frozen s.out) | ((with_reducible refine gc 18 rfl ?_); refine gl 17 Try.func18 #[.agg #[.slice ak J.length al, .slice an L.length ao]] ?_; (with_reducible refine (laws_toGraph.calls k _ _ J _ _ L aE aF _ ?z ?D ?O ?Y A7.out).mono ?_); (case z => exact Kd.C_below aN.out (bs HB.out)); (case D => exact aO.out); (case O => exact Kd.C_below aP.out (bs HB.out)); (case Y => exact aQ.out); rintro e dA ⟨dB, dC, rfl, T, ag, hb⟩; refine ⟨_, rfl, ?_⟩; have Z := am (Kd.R_lower T (below_size (bs HB.out))); have aa := am (Kd.R_lower ag (below_size (bs HB.out))); replace s := bb s hb rfl; replace HB := hs HB hb; (try clear T ag hb); obtain ⟨aZ, a2, cJ⟩ := Kd.R_slice Z.out; subst cJ; obtain ⟨a3, a4, cK⟩ := Kd.R_slice aa.out; subst cK) | ((with_reducible refine gc 26 rfl ?_); refine gl 18 Try.func26 #[.agg #[.slice aZ aE.length a2, .slice a3 aF.length a4]] ?_; (with_reducible refine (spec_WalkParts.calls k _ _ aE _ _ aF ae _ ?z ?D ?O ?Y A8.out).mono ?_); (case z => exact cr Z); (case D => exact cc Z); (case O => exact cr aa); (case Y => exact cc aa); rintro e cL ⟨dD, rfl, T, hb⟩; refine ⟨_, rfl, ?_⟩; replace Z := rb Z hb; replace aa := rb aa hb; have X := am (Kd.R_lower T (below_size (bs HB.out))); replace s := bb s hb rfl; replace HB := hs HB hb; (try clear T hb); obtain ⟨cM, cN⟩ := bc2 (w := cL) s.out; have cO := blk_frozen s.out) | ((with_reducible refine gc 18 rfl ?_); refine gl 20 Try.func18 #[.agg #[.slice ak J.length al, .slice an L.length ao]] ?_; (with_reducible refine (laws_toGraph.calls k _ _ J _ _ L ab ac _ ?z ?D ?O ?Y A9.out).mono ?_); (case z => exact Kd.C_below aN.out (bs HB.out)); (case D => exact aO.out); (case O => exact Kd.C_below aP.out (bs HB.out)); (case Y => exact aQ.out); rintro e dE ⟨dF, dG, rfl, T, ag, hb⟩; refine ⟨_, rfl, ?_⟩; replace X := rb X hb; have G := am (Kd.R_lower (Kd.R_new' T (rk Z)) (below_size (bs HB.out))); replace Z := re Z T hb; have I := am (Kd.R_lower (Kd.R_new' ag (rk aa)) (below_size (bs HB.out))); replace aa := re aa ag hb; replace s := bb s hb rfl; replace HB := hs HB hb; (try clear T ag hb)) | ((with_reducible refine gd 5 rfl ?_); refine bx 5 (cs := #[.slice none 0 0, .slice none 0 0]) (t := 34) ?_; intro bh hg cP hbox hb; replace Z := rb Z hb; replace aa := rb aa hb; replace X := rb X hb; replace G := rb G hb; replace I := rb I hb; have y := am hbox; have dH := gwb HB hg; replace HB := hs HB hb; have bS := nq s hg; have bT := nq' s hg; replace s := bb s hb rfl; clear hb hbox hg; obtain ⟨ap, ah, cQ⟩ := Kd.R_slice G.out; subst cQ; have dI := bT.out; have dJ := bS.out; obtain ⟨cR, cS⟩ := bc2 (w := cP) y.out; have cT := blk_frozen y.out; obtain ⟨aq, ai, cU⟩ := Kd.R_slice I.out; subst cU) | ((with_reducible refine gc 27 rfl ?_); refine gl 22 Try.func27 #[.agg #[.slice ap ab.length ah, .slice aq ac.length ai]] ?_; (with_reducible refine (impl_WalkParts.calls k _ _ ab _ _ ac M _ ?z ?D ?O ?Y ct.out).mono ?_); (case z => refine (Kd.R_reads' (e := 36) (base := w.heap.size) (ok := fun k_ => (True ∧ some k_ ≠ (.slice aZ aE.length a2 : Value).ownBlock)) (n := ab.length) (c := ah) ?_).2.2; exact (rt G.out y.out (by decide))); (case D => exact cc G); (case O => refine (Kd.R_reads' (e := 56) (base := w.heap.size) (ok := fun k_ => (True ∧ some k_ ≠ (.slice a3 aF.length a4 : Value).ownBlock)) (n := ac.length) (c := ai) ?_).2.2; exact (rt I.out y.out (by decide))); (case Y => exact cc I); rintro e ar ⟨dK, rfl, T, hb⟩; refine ⟨_, rfl, ?_⟩; replace Z := am (Kd.R_below (rt Z.out y.out (by decide)) hb); replace aa := am (Kd.R_below (rt aa.out y.out (by decide)) hb); replace G := am (Kd.R_below (rt G.out y.out (by decide)) hb); replace I := am (Kd.R_below (rt I.out y.out (by decide)) hb); have af := am (Kd.R_lower (Kd.R_new' T (Kd.R_lt (rt X.out y.out (by decide)))) (below_size (bs HB.out))); replace X := am (Kd.R_elder' (rt X.out y.out (by decide)) (Kd.R_base T) hb); replace s := am (blk_below (g := aR) (o := .cells #[.slice ak J.length al, .slice an L.length ao] 25 (0, 0)) (bf s.out) hb); replace y := bq #[.slice ap ab.length ah, .slice aq ac.length ai] y hb; replace HB := hs HB hb; (try clear hb); (try clear hb2); (try clear hk); (try clear hi); (try clear T); obtain ⟨av, aw, cV⟩ := Kd.R_slice af.out; subst cV; obtain ⟨aG, aH, cW⟩ := Kd.R_slice X.out; subst cW) | ((with_reducible refine gc 28 rfl ?_); refine gl 25 Try.func28 #[.slice av M.length aw, .slice aG ae.length aH] ?_; (with_reducible refine (laws_eqIntS.calls k _ _ M _ _ ae true _ ?z ?D ?O ?Y cv.out).mono ?_); (case z => exact cr af); (case D => exact cc af); (case O => exact cr X); (case Y => exact cc X); rintro e w' ⟨rfl, ⟨nd, rfl⟩⟩; refine ⟨_, rfl, ?_⟩))
    (try (rw [drewN_self ar]; generalize hq_ : World.drewN ar _ = ar; have bU : Aside0 (Kd.R k36 36 ar w.heap.size (fun k_ => some k_ ≠ (.slice ap ab.length ah : Value).ownBlock) (.slice aZ aE.length a2) aE) := ⟨by rw [← hq_]; exact (by (with_reducible repeat (first | apply Kd.R_alloc | apply Kd.R_drewN | apply Kd.R_drew)); exact Kd.R_mono Z.out (fun _ hk => hk.2))⟩; have bV : Aside0 (Kd.R k56 56 ar w.heap.size (fun k_ => some k_ ≠ (.slice aq ac.length ai : Value).ownBlock) (.slice a3 aF.length a4) aF) := ⟨by rw [← hq_]; exact (by (with_reducible repeat (first | apply Kd.R_alloc | apply Kd.R_drewN | apply Kd.R_drew)); exact Kd.R_mono aa.out (fun _ hk => hk.2))⟩; have bW : Aside0 (Kd.R (Kd.int .i64) 3 ar w.heap.size (fun k_ => some k_ ≠ (.slice av M.length aw : Value).ownBlock) (.slice aG ae.length aH) ae) := ⟨by rw [← hq_]; exact (by (with_reducible repeat (first | apply Kd.R_alloc | apply Kd.R_drewN | apply Kd.R_drew)); exact Kd.R_mono X.out (fun _ hk => hk.2))⟩; have bX : Aside0 (Kd.R k36 36 ar w.heap.size (fun k_ => some k_ ≠ (.slice aZ aE.length a2 : Value).ownBlock) (.slice ap ab.length ah) ab) := ⟨by rw [← hq_]; exact (by (with_reducible repeat (first | apply Kd.R_alloc | apply Kd.R_drewN | apply Kd.R_drew)); exact Kd.R_mono G.out (fun _ hk => hk.2))⟩; have bY : Aside0 (Kd.R k56 56 ar w.heap.size (fun k_ => some k_ ≠ (.slice a3 aF.length a4 : Value).ownBlock) (.slice aq ac.length ai) ac) := ⟨by rw [← hq_]; exact (by (with_reducible repeat (first | apply Kd.R_alloc | apply Kd.R_drewN | apply Kd.R_drew)); exact Kd.R_mono I.out (fun _ hk => hk.2))⟩; have bZ : Aside0 (Kd.R (Kd.int .i64) 3 ar w.heap.size (fun k_ => some k_ ≠ (.slice aG ae.length aH : Value).ownBlock) (.slice av M.length aw) M) := ⟨by rw [← hq_]; exact (by (with_reducible repeat (first | apply Kd.R_alloc | apply Kd.R_drewN | apply Kd.R_drew)); exact Kd.R_mono af.out (fun _ hk => hk.2))⟩; have b0 : Aside0 (ar.heap[aR]? = some (.cells #[.slice ak J.length al, .slice an L.length ao] 25 (0, 0))) := ⟨by rw [← hq_]; exact (bf s.out)⟩; have b1 : Aside0 (ar.heap[bh]? = some (.cells #[.slice ap ab.length ah, .slice aq ac.length ai] 34 (0, 0))) := ⟨by rw [← hq_]; exact (bf y.out)⟩; have b2 : Aside0 (Below w.heap.size w ar) := ⟨by rw [← hq_]; exact (bs HB.out)⟩; clear Z aa X G I af s y HB hq_; have Z := bU; have aa := bV; have X := bW; have G := bX; have I := bY; have af := bZ; have s := b0; have y := b1; have HB := b2; clear bU bV bW bX bY bZ b0 b1 b2))
    replace Z := rd_ Z
    replace aa := rd_ aa
    replace X := rd_ X
    replace G := rd_ G
    replace I := rd_ I
    replace af := rd_ af
    replace s := bd s
    replace y := bd y
    replace HB := hd HB
    refine sta 5 (fun w' => w'.cell? ⟨bh, 0, none⟩ = some (.slice ap ab.length ah) ∧ w'.cell? ⟨bh, 1, none⟩ = some (.slice aq ac.length ai) ∧ w'.cell? ⟨aR, 0, none⟩ = some (.slice ak J.length al) ∧ w'.cell? ⟨aR, 1, none⟩ = some (.slice an L.length ao)) [] ⟨cx y 0, cx y 1, cx s 0, cx s 1⟩ (fun hHeld => ?_)
    generalize ar.drew = dL at Z aa X G I af s y HB hHeld ⊢
    refine tk 0 27 ?_
    refine tk 1 28 ?_
    refine on 2 29 (fun K hK => ?_)
    refine gs Try.func18 #[.agg #[.slice ak J.length al, .slice an L.length ao]] ?_
    with_reducible refine (laws_toGraph.calls k _ _ J _ _ L bc be _ ?z ?D ?O ?Y cy.out).mono ?_
    (case z => exact Kd.C_below aN.out (bs HB.out))
    (case D => exact aO.out)
    (case O => exact Kd.C_below aP.out (bs HB.out))
    (case Y => exact aQ.out)
    rintro e dM ⟨dN, dO, rfl, T, ag, hb⟩
    refine ⟨_, rfl, ?_⟩
    replace X := rb X hb
    replace af := rb af hb
    have aI := am (Kd.R_lower (Kd.R_new' (Kd.R_new' T (rk Z)) (rk G)) (below_size (bs HB.out)))
    replace Z := re Z T hb
    replace G := re G T hb
    have aJ := am (Kd.R_lower (Kd.R_new' (Kd.R_new' ag (rk aa)) (rk I)) (below_size (bs HB.out)))
    replace aa := re aa ag hb
    replace I := re I ag hb
    replace s := bb s hb rfl
    replace y := bb y hb rfl
    replace HB := hs HB hb
    (try clear hb)
    (try clear hb2)
    (try clear hk)
    (try clear hi)
    (try clear T)
    (try clear ag)
    obtain ⟨b3, b4, b5⟩ := Kd.R_slice aI.out
    (first | subst b5 | (injection b5 with a5 br a6; have bt := a5.symm; have bu := a6.symm; clear a5 br a6; subst bt; subst bu))
    obtain ⟨b6, b7, b8⟩ := Kd.R_slice aJ.out
    (first | subst b8 | (injection b8 with a5 br a6; have bt := a5.symm; have bu := a6.symm; clear a5 br a6; subst bt; subst bu))
    refine hK.out _ _ ⟨cx y 0, cx y 1, cx s 0, cx s 1⟩ (fun hHeld => ?_)
    clear hK K
    refine nrm 29 ?_
    refine on 3 30 (fun K hK => ?_)
    refine gs Try.func22 #[.agg #[.slice ap ab.length ah, .slice aq ac.length ai], .agg #[.slice b3 bc.length b4, .slice b6 be.length b7]] ?_
    with_reducible refine (laws_eqGraph.calls k _ _ ab _ _ ac _ _ bc _ _ be true _ ?z ?D ?O ?Y ?cX ?cY ?cZ ?c0 cz.out).mono ?_
    (case z => exact cr G)
    (case D => exact cc G)
    (case O => exact cr I)
    (case Y => exact cc I)
    (case cX => exact cr aI)
    (case cY => exact cc aI)
    (case cZ => exact cr aJ)
    (case c0 => exact cc aJ)
    rintro e c5 ⟨rfl, hb⟩
    refine ⟨_, rfl, ?_⟩
    replace Z := rb Z hb
    replace aa := rb aa hb
    replace X := rb X hb
    replace G := rb G hb
    replace I := rb I hb
    replace af := rb af hb
    replace aI := rb aI hb
    replace aJ := rb aJ hb
    replace s := bb s hb rfl
    replace y := bb y hb rfl
    replace HB := hs HB hb
    (try clear hb)
    (try clear hb2)
    (try clear hk)
    (try clear hi)
    refine hK.out _ _ ⟨cx y 0, cx y 1, cx s 0, cx s 1⟩ (fun hHeld => ?_)
    clear hK K
    refine nrm 30 ?_
    refine pu 4 31 ?_
    refine dn ?_
    obtain ⟨c6, c7⟩ := bc2 (w := c5) y.out
    have c8 := blk_frozen y.out
    go_upto_region 14 with (first | ((with_reducible refine gc 23 rfl ?_); refine gl 34 Try.func23 #[.agg #[.slice ap ab.length ah, .slice aq ac.length ai], .int .i64 1] ?_; (with_reducible refine (laws_markGraph.calls k (fun k_ => some k_ = (.slice ap ab.length ah : Value).ownBlock) (.slice ap ab.length ah) ab (fun k_ => some k_ = (.slice aq ac.length ai : Value).ownBlock) (.slice aq ac.length ai) ac 1 bg bP bQ w _ ?z ?D ?O cA.out).mono ?_); (case z => exact bs HB.out); (case D => exact Kd.R_tight rfl G.out); (case O => exact Kd.R_tight rfl I.out); rintro e dP ⟨rfl, a7, b9, hb, hkp⟩; refine ⟨_, rfl, ?_⟩; replace s := am (blk_kept (bf s.out) hkp (fun hs_ => Or.elim hs_ (fun e_ => (fun e_ => (Kd.R_ne G.out s.out (by decide)) e_) e_) (fun e_ => (fun e_ => (Kd.R_ne I.out s.out (by decide)) e_) e_))); replace Z := am (Kd.R_mono (ok' := fun k_ => some k_ ≠ (.slice ap ab.length ah : Value).ownBlock ∧ some k_ ≠ (.slice b3 bc.length b4 : Value).ownBlock) (Kd.R_keptB ((Kd.R_apart' Z.out (Kd.R_typed I.out) (by decide))) hkp (fun k_ hk_ hs_ => Or.elim hs_ (fun e_ => by first | exact hk_.1.1.2 e_ | exact hk_.1.1 e_) (fun e_ => (hk_.2) e_))) (fun k_ hk_ => by first | exact ⟨hk_.1.1.1.2, hk_.1.1.2⟩ | exact hk_.1.1)); replace aa := am (Kd.R_mono (ok' := fun k_ => some k_ ≠ (.slice aq ac.length ai : Value).ownBlock ∧ some k_ ≠ (.slice b6 be.length b7 : Value).ownBlock) (Kd.R_keptB ((Kd.R_apart' aa.out (Kd.R_typed G.out) (by decide))) hkp (fun k_ hk_ hs_ => Or.elim hs_ (fun e_ => (hk_.2) e_) (fun e_ => by first | exact hk_.1.1.2 e_ | exact hk_.1.1 e_))) (fun k_ hk_ => by first | exact ⟨hk_.1.1.1.2, hk_.1.1.2⟩ | exact hk_.1.1)); replace X := am (Kd.R_mono (ok' := fun k_ => some k_ ≠ (.slice av M.length aw : Value).ownBlock) (Kd.R_keptB ((Kd.R_apart' (Kd.R_apart' X.out (Kd.R_typed G.out) (by decide)) (Kd.R_typed I.out) (by decide))) hkp (fun k_ hk_ hs_ => Or.elim hs_ (fun e_ => (hk_.1.2) e_) (fun e_ => (hk_.2) e_))) (fun k_ hk_ => by first | exact hk_.1.1.1.2 | exact hk_.1.1.1)); replace y := am (blk_kept (bf y.out) hkp (fun hs_ => Or.elim hs_ (fun e_ => (fun e_ => (Kd.R_ne G.out y.out (by decide)) e_) e_) (fun e_ => (fun e_ => (Kd.R_ne I.out y.out (by decide)) e_) e_))); replace af := am (Kd.R_mono (ok' := fun k_ => some k_ ≠ (.slice aG ae.length aH : Value).ownBlock) (Kd.R_keptB ((Kd.R_apart' (Kd.R_apart' af.out (Kd.R_typed G.out) (by decide)) (Kd.R_typed I.out) (by decide))) hkp (fun k_ hk_ hs_ => Or.elim hs_ (fun e_ => (hk_.1.2) e_) (fun e_ => (hk_.2) e_))) (fun k_ hk_ => by first | exact hk_.1.1.1.2 | exact hk_.1.1.1)); replace aI := am (Kd.R_mono (ok' := fun k_ => some k_ ≠ (.slice aZ aE.length a2 : Value).ownBlock ∧ some k_ ≠ (.slice ap ab.length ah : Value).ownBlock) (Kd.R_keptB ((Kd.R_apart' aI.out (Kd.R_typed I.out) (by decide))) hkp (fun k_ hk_ hs_ => Or.elim hs_ (fun e_ => (hk_.1.2) e_) (fun e_ => (hk_.2) e_))) (fun k_ hk_ => by first | exact ⟨hk_.1.1.1.2, hk_.1.1.2⟩ | exact hk_.1.1)); replace I := am (Kd.R_reok rfl b9 (fun k_ e_ => I.out.1 k_ e_)); replace aJ := am (Kd.R_mono (ok' := fun k_ => some k_ ≠ (.slice a3 aF.length a4 : Value).ownBlock ∧ some k_ ≠ (.slice aq ac.length ai : Value).ownBlock) (Kd.R_keptB ((Kd.R_apart' aJ.out (Kd.R_typed G.out) (by decide))) hkp (fun k_ hk_ hs_ => Or.elim hs_ (fun e_ => (hk_.2) e_) (fun e_ => (hk_.1.2) e_))) (fun k_ hk_ => by first | exact ⟨hk_.1.1.1.2, hk_.1.1.2⟩ | exact hk_.1.1)); replace G := am (Kd.R_reok rfl a7 (fun k_ e_ => G.out.1 k_ e_)); replace HB := am hb; (try clear hb hkp); (try clear a7); (try clear b9)))
    (try simp only [Act.put, List.setIfInBounds_toArray, List.set_cons_zero, List.set_cons_succ])
    go_cut [42] (fun c9 wc => ∃ (kq : Nat) (bi : Bool), c9 = .bool bi ∧ Aside0 (laws_FnExactWalkParts.j0 kq ae M bi J L = some r) ∧ Aside0 (kq ≤ k) ∧ Aside0 (Kd.R (Kd.int .i64) 3 wc w.heap.size (fun k_ => some k_ ≠ ((.slice av M.length aw) : Value).ownBlock) (.slice aG ae.length aH) ae) ∧ Aside0 (Kd.R (Kd.int .i64) 3 wc w.heap.size (fun k_ => some k_ ≠ ((.slice aG ae.length aH) : Value).ownBlock) (.slice av M.length aw) M) ∧ Aside0 (Kd.R k36 36 wc w.heap.size (fun _ => True) (.slice ap ab.length ah) bP) ∧ Aside0 (Kd.R k56 56 wc w.heap.size (fun _ => True) (.slice aq ac.length ai) bQ) ∧ Aside0 (wc.heap[aR]? = some (.cells #[(.slice ak J.length al), (.slice an L.length ao)] 25 (0, 0))) ∧ Aside0 (wc.heap[bh]? = some (.cells #[(.slice ap ab.length ah), (.slice aq ac.length ai)] 34 (0, 0))) ∧ Aside0 (Below w.heap.size w wc))
    case first =>
     have H := bo.out
     clear bo
     by_cases aK : bg < 0
     ·rw [if_pos aK] at H
      have aT : decide (bg < 0) = true := decide_eq_true aK
      clear aK
      (first | rw [aT] | (simp only [i64_w, i32_w]; rw [aT]) | skip)
      have H' := am H
      clear H
      go_wp2
      go_meet
      case rel => exact ⟨_, (true), eqs, H', ⟨by first | omega | exact Nat.le_refl _⟩, ⟨rl X.out⟩, ⟨rl af.out⟩, ⟨by (with_reducible repeat (first | apply Kd.R_alloc | apply Kd.R_drewN | apply Kd.R_drew)); exact Kd.R_mono G.out (fun _ hk => trivial)⟩, ⟨by (with_reducible repeat (first | apply Kd.R_alloc | apply Kd.R_drewN | apply Kd.R_drew)); exact Kd.R_mono I.out (fun _ hk => trivial)⟩, ⟨bf s.out⟩, ⟨bf y.out⟩, ⟨bs HB.out⟩⟩
     ·rw [if_neg aK] at H
      have aT : decide (bg < 0) = false := decide_eq_false aK
      clear aK
      (first | rw [aT] | (simp only [i64_w, i32_w]; rw [aT]) | skip)
      replace H := Option.bind_eq_some_iff.mp H
      obtain ⟨aS, ce, H⟩ := H
      try dsimp -simprocs only at H
      have da := am ce
      clear ce
      have H' := am H
      clear H
      go_wp2_with (first | (go_at_call 28; (with_reducible refine (laws_eqIntS.calls k _ _ M _ _ ae aS _ ?z ?D ?O ?Y da.out).mono ?_); (case z => exact cr af); (case D => exact cc af); (case O => exact cr X); (case Y => exact cc X); rintro e w' ⟨rfl, ⟨nd, rfl⟩⟩))
      go_meet
      case rel => exact ⟨_, (!aS), eqs, H', ⟨by first | omega | exact Nat.le_refl _⟩, ⟨rl X.out⟩, ⟨rl af.out⟩, ⟨by (with_reducible repeat (first | apply Kd.R_alloc | apply Kd.R_drewN | apply Kd.R_drew)); exact Kd.R_mono G.out (fun _ hk => trivial)⟩, ⟨by (with_reducible repeat (first | apply Kd.R_alloc | apply Kd.R_drewN | apply Kd.R_drew)); exact Kd.R_mono I.out (fun _ hk => trivial)⟩, ⟨bf s.out⟩, ⟨bf y.out⟩, ⟨bs HB.out⟩⟩
    case rest =>
     clear bo
     try clear c1
     try clear c2
     try clear p2
     try clear c3
     try clear bG
     try clear c4
     try clear aX
     try clear aY
     try clear dQ
     try clear dR
     try clear dS
     try clear dT
     try clear dU
     try clear dV
     try clear dW
     try clear dX
     try clear aK
     try clear aT
     try clear cC cD
     try clear cG cH
     try clear cM cN
     try clear cR cS
     try clear c6 c7
     try clear cn co
     try clear cE
     try clear cI
     try clear cO
     try clear cT
     try clear c8
     try clear cp
     obtain ⟨kq, bi, rfl, HA, dY, az, ad, aA, aB, s, y, HB⟩ := hcut
     have hl408000_16 := (Kd.R_reads' aA.out).1
     rw [hl408000_16] at aA
     (try simp only [hl408000_16])
     (try simp only [hl408000_16] at s)
     (try simp only [hl408000_16] at y)
     (try simp only [hl408000_16] at az)
     (try simp only [hl408000_16] at ad)
     (try simp only [hl408000_16] at aB)
     have hl408001_16 := (Kd.R_reads' aB.out).1
     rw [hl408001_16] at aB
     (try simp only [hl408001_16])
     (try simp only [hl408001_16] at s)
     (try simp only [hl408001_16] at y)
     (try simp only [hl408001_16] at az)
     (try simp only [hl408001_16] at ad)
     (try simp only [hl408001_16] at aA)
     cases kq with
     | zero => exact absurd HA.out (by simp [laws_FnExactWalkParts.j0])
     | succ au =>
      have H := HA.out
      clear HA
      simp only [laws_FnExactWalkParts.j0] at H
      by_cases bj : bi = true
      ·subst bj
       replace H : (some false) = some r := by rw [if_pos rfl] at H; exact H
       exact absurd (Option.some.inj H) (by rw [hT.out]; decide)
      ·replace bj := Bool.eq_false_iff.mpr bj
       subst bj
       have H1 : ((laws_markIntS.f au M 1).bind fun bk => ((laws_heldIntS.f au bk.2 1).bind fun ax => (if ax < 0 then (some false) else (if ax = bk.1 then ((laws_toGraph.f au J L).bind fun cf => ((impl_WalkParts.f au cf.1 cf.2).bind fun a8 => ((laws_eqIntS.f au a8 ae).bind fun bv => (if bv = true then ((laws_heldIntS.f au bk.2 1).bind fun aj => (if aj < 0 then (some false) else (if aj = bk.1 then (some true) else (some false)))) else (some false))))) else (some false))))) = some r := by rw [if_neg (show ¬ (false = true) by decide)] at H; exact H
       clear H
       have H := H1
       clear H1
       replace H := Option.bind_eq_some_iff.mp H
       obtain ⟨⟨ay, aC⟩, cg, H⟩ := H
       try dsimp -simprocs only at H
       have db := am cg
       clear cg
       replace H := Option.bind_eq_some_iff.mp H
       obtain ⟨ax, ch, H⟩ := H
       try dsimp -simprocs only at H
       have dc := am ch
       clear ch
       by_cases aU : ax < 0
       ·rw [if_pos aU] at H
        have dd : decide (ax < 0) = true := decide_eq_true aU
        clear aU
        exact absurd (Option.some.inj H) (by rw [hT.out]; decide)
       ·rw [if_neg aU] at H
        have dd : decide (ax < 0) = false := decide_eq_false aU
        clear aU
        by_cases aL : ax = ay
        ·rw [if_pos aL] at H
         have de : (ax == ay) = true := beq_iff_eq.mpr aL
         have df : (ax != ay) = false := bne_eq_false_iff_eq.mpr aL
         clear aL
         replace H := Option.bind_eq_some_iff.mp H
         obtain ⟨⟨bw, bz⟩, ci, H⟩ := H
         try dsimp -simprocs only at H
         have dg := am ci
         clear ci
         replace H := Option.bind_eq_some_iff.mp H
         obtain ⟨a8, cj, H⟩ := H
         try dsimp -simprocs only at H
         have dh := am cj
         clear cj
         replace H := Option.bind_eq_some_iff.mp H
         obtain ⟨bv, ck, H⟩ := H
         try dsimp -simprocs only at H
         have di := am ck
         clear ck
         by_cases bl : bv = true
         ·subst bl
          replace H : ((laws_heldIntS.f au aC 1).bind fun aj => (if aj < 0 then (some false) else (if aj = ay then (some true) else (some false)))) = some r := by rw [if_pos rfl] at H; exact H
          replace H := Option.bind_eq_some_iff.mp H
          obtain ⟨aj, cl, H⟩ := H
          try dsimp -simprocs only at H
          have dj := am cl
          clear cl
          by_cases aV : aj < 0
          ·rw [if_pos aV] at H
           have dk : decide (aj < 0) = true := decide_eq_true aV
           clear aV
           exact absurd (Option.some.inj H) (by rw [hT.out]; decide)
          ·rw [if_neg aV] at H
           have dk : decide (aj < 0) = false := decide_eq_false aV
           clear aV
           by_cases aM : aj = ay
           ·rw [if_pos aM] at H
            have dl : (aj == ay) = true := beq_iff_eq.mpr aM
            have dm : (aj != ay) = false := bne_eq_false_iff_eq.mpr aM
            clear aM
            obtain rfl := Option.some.inj H
            go_wp2_with (first | ((with_reducible refine gc 29 rfl ?_); refine gl 45 Try.func29 #[.slice av M.length aw, .int .i64 1] ?_; (with_reducible refine (laws_markIntS.calls au (fun k_ => some k_ = (.slice av M.length aw : Value).ownBlock) (.slice av M.length aw) M 1 ay aC w _ ?z ?D db.out).mono ?_); (case z => exact bs HB.out); (case D => exact Kd.R_tight rfl ad.out); rintro e dp ⟨rfl, a7, hb, hkp⟩; refine ⟨_, rfl, ?_⟩; replace az := am (Kd.R_mono (ok' := fun k_ => some k_ ≠ (.slice av M.length aw : Value).ownBlock) (Kd.R_keptB (az.out) hkp (fun k_ hk_ hs_ => (hk_) hs_)) (fun k_ hk_ => hk_.1)); replace aA := am (Kd.R_mono (ok' := fun k_ => True) (Kd.R_keptB ((Kd.R_apart' aA.out (Kd.R_typed ad.out) (by decide))) hkp (fun k_ hk_ hs_ => (hk_.2) hs_)) (fun k_ hk_ => trivial)); replace aB := am (Kd.R_mono (ok' := fun k_ => True) (Kd.R_keptB ((Kd.R_apart' aB.out (Kd.R_typed ad.out) (by decide))) hkp (fun k_ hk_ hs_ => (hk_.2) hs_)) (fun k_ hk_ => trivial)); replace s := am (blk_kept (bf s.out) hkp (fun hs_ => (fun e_ => (Kd.R_ne ad.out s.out (by decide)) e_) hs_)); replace y := am (blk_kept (bf y.out) hkp (fun hs_ => (fun e_ => (Kd.R_ne ad.out y.out (by decide)) e_) hs_)); replace ad := am (Kd.R_reok rfl a7 (fun k_ e_ => ad.out.1 k_ e_)); replace HB := am hb; (try clear hb hkp); (try clear a7)) | ((with_reducible refine gc 30 rfl ?_); refine goesL_ (some 48) rfl rfl Try.func30 (by kernel_rfl) rfl #[.slice av aC.length aw, .int .i64 1] rfl (by (try simp only [List.map_toArray, List.map_cons, List.map_nil]); first | done | (rw [show aC.length = M.length from (Kd.R_reads' ad.out).1.symm] <;> rfl) | rfl | (simp only [List.length_drop, List.length_take]; rfl)) ?_; (with_reducible refine (laws_heldIntS.calls au _ _ aC 1 ax _ ?z ?D dc.out).mono ?_); (case z => exact cr ad); (case D => rw [show aC.length = M.length from (Kd.R_reads' ad.out).1.symm]; exact cc ad); rintro e w' ⟨rfl, ⟨nd, rfl⟩⟩; refine ⟨_, rfl, ?_⟩; have dZ := bS.out; have d0 := bT.out; obtain ⟨d1, d2⟩ := bc2 (w := dp) s.out; have d3 := blk_frozen s.out) | ((with_reducible refine gc 18 rfl ?_); refine gl 55 Try.func18 #[.agg #[.slice ak J.length al, .slice an L.length ao]] ?_; (with_reducible refine (laws_toGraph.calls au _ _ J _ _ L bw bz _ ?z ?D ?O ?Y dg.out).mono ?_); (case z => exact Kd.C_below aN.out (bs HB.out)); (case D => exact aO.out); (case O => exact Kd.C_below aP.out (bs HB.out)); (case Y => exact aQ.out); rintro e d4 ⟨d5, d6, rfl, T, ag, hb⟩; refine ⟨_, rfl, ?_⟩; replace az := rb az hb; replace ad := rb ad hb; have a9 := am (Kd.R_lower (Kd.R_new' T (rk aA)) (below_size (bs HB.out))); replace aA := re aA T hb; have ba := am (Kd.R_lower (Kd.R_new' ag (rk aB)) (below_size (bs HB.out))); replace aB := re aB ag hb; replace s := bb s hb rfl; replace y := bb y hb rfl; replace HB := hs HB hb; (try clear T ag hb); obtain ⟨dq, dr, dt⟩ := Kd.R_slice a9.out; subst dt; obtain ⟨du, dv, dw⟩ := Kd.R_slice ba.out; subst dw) | ((with_reducible refine gc 27 rfl ?_); refine gl 56 Try.func27 #[.agg #[.slice dq bw.length dr, .slice du bz.length dv]] ?_; (with_reducible refine (impl_WalkParts.calls au _ _ bw _ _ bz a8 _ ?z ?D ?O ?Y dh.out).mono ?_); (case z => exact cr a9); (case D => exact cc a9); (case O => exact cr ba); (case Y => exact cc ba); rintro e d7 ⟨d8, rfl, T, hb⟩; refine ⟨_, rfl, ?_⟩; replace aA := rb aA hb; replace aB := rb aB hb; replace a9 := rb a9 hb; replace ba := rb ba hb; have bA := am (Kd.R_lower (Kd.R_new' (Kd.R_new' T (rk az)) (rk ad)) (below_size (bs HB.out))); replace az := re az T hb; replace ad := re ad T hb; replace s := bb s hb rfl; replace y := bb y hb rfl; replace HB := hs HB hb; (try clear T hb); obtain ⟨dx, dy, dz⟩ := Kd.R_slice bA.out; subst dz) | ((with_reducible refine gc 28 rfl ?_); refine gl 59 Try.func28 #[.slice dx a8.length dy, .slice aG ae.length aH] ?_; (with_reducible refine (laws_eqIntS.calls au _ _ a8 _ _ ae true _ ?z ?D ?O ?Y di.out).mono ?_); (case z => exact cr bA); (case D => exact cc bA); (case O => exact cr az); (case Y => exact cc az); rintro e w' ⟨rfl, ⟨nd, rfl⟩⟩; refine ⟨_, rfl, ?_⟩) | ((with_reducible refine gc 30 rfl ?_); refine goesL_ (some 63) rfl rfl Try.func30 (by kernel_rfl) rfl #[.slice av aC.length aw, .int .i64 1] rfl (by (try simp only [List.map_toArray, List.map_cons, List.map_nil]); first | done | (rw [show aC.length = M.length from (Kd.R_reads' ad.out).1.symm] <;> rfl) | rfl | (simp only [List.length_drop, List.length_take]; rfl)) ?_; (with_reducible refine (laws_heldIntS.calls au _ _ aC 1 aj _ ?z ?D dj.out).mono ?_); (case z => exact cr ad); (case D => rw [show aC.length = M.length from (Kd.R_reads' ad.out).1.symm]; exact cc ad); rintro e w' ⟨rfl, ⟨nd, rfl⟩⟩; refine ⟨_, rfl, ?_⟩))
            go_ret
            exact ⟨eqr, bs HB.out⟩
           ·rw [if_neg aM] at H
            have dl : (aj == ay) = false := beq_eq_false_iff_ne.mpr aM
            have dm : (aj != ay) = true := bne_iff_ne.mpr aM
            exact absurd (Option.some.inj H) (by rw [hT.out]; decide)
         ·replace bl := Bool.eq_false_iff.mpr bl
          subst bl
          have H1 : (some false) = some r := by rw [if_neg (show ¬ (false = true) by decide)] at H; exact H
          clear H
          have H := H1
          clear H1
          exact absurd (Option.some.inj H) (by rw [hT.out]; decide)
        ·rw [if_neg aL] at H
         have de : (ax == ay) = false := beq_eq_false_iff_ne.mpr aL
         have df : (ax != ay) = true := bne_iff_ne.mpr aL
         exact absurd (Option.some.inj H) (by rw [hT.out]; decide)
   ·replace aY := Bool.eq_false_iff.mpr aY
    subst aY
    have H1 : (some false) = some r := by rw [if_neg (show ¬ (false = true) by decide)] at H; exact H
    clear H
    have H := H1
    clear H1
    exact absurd (Option.some.inj H) (by rw [hT.out]; decide)
  ·replace aX := Bool.eq_false_iff.mpr aX
   subst aX
   have H1 : (some false) = some r := by rw [if_neg (show ¬ (false = true) by decide)] at H; exact H
   clear H
   have H := H1
   clear H1
   exact absurd (Option.some.inj H) (by rw [hT.out]; decide)

end Go.Proofs.Ytohmemckdogljaa.QFnExactWalkParts
