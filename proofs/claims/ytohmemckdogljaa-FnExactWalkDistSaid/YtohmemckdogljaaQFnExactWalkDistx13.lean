/- Contracts of the Go functions that this law reaches: each does what its plain Lean function says. No condition. -/
import Derived.Test.YtohmemckdogljaaQFnExactWalkDistx0
import Derived.Test.YtohmemckdogljaaQFnExactWalkDistx2
import Derived.Test.YtohmemckdogljaaQFnExactWalkDistx3
import Derived.Test.YtohmemckdogljaaQFnExactWalkDistx8
import Derived.Test.YtohmemckdogljaaQFnExactWalkDistx10
import Derived.Test.YtohmemckdogljaaQFnExactWalkDistx12
namespace Go.Proofs.Ytohmemckdogljaa.QFnExactWalkDist
open Go.RowKit Go.Proofs.YtohmemckdogljaaW.PrintWords Go.Proofs.YtohmemckdogljaaW.PrintLast Go.Proofs.YtohmemckdogljaaW.PrintMore Go.Proofs.Ytohmemckdogljaa.Bl
attribute [local go_sem] max2_int min2_int max_two min_two max_three min_three max_four min_four   -- for this text's walks alone
set_option linter.unusedVariables false
set_option linter.unusedSimpArgs false
set_option maxHeartbeats 8000000
set_option maxRecDepth 100000

/-! ### impl_WalkDist: function 59 -/
def impl_WalkDist.f (k : Nat) (s : List (S36)) (y : List (S56)) (D : Int) (G : Int) : Option (List Int) := (impl_GraphOk.f k s y).bind fun I => (if I = true then ((impl_nodePlace.f k s y D G).bind fun z => (if z < 0 then (some ([] : List Int)) else ((impl_nearPlaces.f k s y).bind fun J => ((impl_stepsFrom.f k J z).bind fun L => (some L.1))))) else (some ([] : List Int)))
theorem impl_WalkDist.calls (k : Nat) (L : Option Addr) (M : Nat) (y : List (S36)) (O : Option Addr) (T : Nat) (z : List (S56)) (Z : Int) (aa : Int) (r : List Int) (w : World) (an : Kd.C k36 w L y.length y) (ao : y.length ≤ M) (ap : Kd.C k56 w O z.length z) (aq : z.length ≤ T) (h : impl_WalkDist.f k y z Z aa = some r) :
  Calls Try.prog 59 #[.agg #[.slice L y.length M, .slice O z.length T], .agg #[.int .i64 Z, .int .i64 aa]] w fun e w' => ∃ ar : Value, e = .returned (ar) ∧ Kd.R (Kd.int .i64) 3 w' w.heap.size (fun _ => True) ar r ∧ Below w.heap.size w w' := by
 have hu34 := Try.underlying34
 have hu36 := Try.underlying36
 have ac := am an
 have ad := am ao
 clear an ao
 have ae := am ap
 have af := am aq
 clear ap aq
 have HB := am (Below.refl w.heap.size w)
 have H := h; unfold impl_WalkDist.f at H
 clear h
 replace H := Option.bind_eq_some_iff.mp H
 obtain ⟨aE, au, H⟩ := H
 try dsimp -simprocs only at H
 have A3 := am au
 clear au
 by_cases c4 : aE = true
 ·subst c4
  replace H : ((impl_nodePlace.f k y z Z aa).bind fun ab => (if ab < 0 then (some ([] : List Int)) else ((impl_nearPlaces.f k y z).bind fun ah => ((impl_stepsFrom.f k ah ab).bind fun aF => (some aF.1))))) = some r := by rw [if_pos rfl] at H; exact H
  replace H := Option.bind_eq_some_iff.mp H
  obtain ⟨ab, av, H⟩ := H
  try dsimp -simprocs only at H
  have A5 := am av
  clear av
  by_cases c6 : ab < 0
  ·rw [if_pos c6] at H
   have aG : decide (ab < 0) = true := decide_eq_true c6
   clear c6
   obtain rfl := Option.some.inj H
   go_enter Try.func59, Try.ntmps59
   go_wp2_with (first | ((with_reducible refine gd 2 rfl ?_); refine bx 2 (cs := #[.slice L y.length M, .slice O z.length T]) (t := 34) ?_; intro aw hg w7 hbox hb; have s := am hbox; have ax := gwb HB hg; replace HB := hs HB hb; clear hb hbox hg) | ((with_reducible refine gd 3 rfl ?_); refine bx 3 (cs := #[.int .i64 Z, .int .i64 aa]) (t := 36) ?_; intro ay hg w8 hbox hb; have D := am hbox; have az := gwb HB hg; replace HB := hs HB hb; have ai := nq s hg; have aj := nq' s hg; replace s := bb s hb rfl; clear hb hbox hg; have aS := ai.out; have aT := aj.out; obtain ⟨aU, aV⟩ := bc2 (w := w8) s.out; have aW := blk_frozen s.out) | ((with_reducible refine gc 34 rfl ?_); refine gl 9 Try.func34 #[.agg #[.slice L y.length M, .slice O z.length T]] ?_; (with_reducible refine (impl_GraphOk.calls k _ _ y _ _ z true _ ?I ?J ?X ?Y A3.out).mono ?_); (case I => exact Kd.C_below ac.out (bs HB.out)); (case J => exact ad.out); (case X => exact Kd.C_below ae.out (bs HB.out)); (case Y => exact af.out); rintro e aA ⟨rfl, hb⟩; refine ⟨_, rfl, ?_⟩; replace s := bb s hb rfl; replace D := bb D hb rfl; replace HB := hs HB hb; (try clear hb); obtain ⟨aX, aY⟩ := bc2 (w := aA) s.out; have aZ := blk_frozen s.out; obtain ⟨a4, a5⟩ := bc2 (w := aA) D.out; have a6 := blk_frozen D.out) | ((with_reducible refine gc 67 rfl ?_); refine gl 13 Try.func67 #[.agg #[.slice L y.length M, .slice O z.length T], .agg #[.int .i64 Z, .int .i64 aa]] ?_; (with_reducible refine (impl_nodePlace.calls k _ _ y _ _ z Z aa ab _ ?I ?J ?X ?Y A5.out).mono ?_); (case I => exact Kd.C_below ac.out (bs HB.out)); (case J => exact ad.out); (case X => exact Kd.C_below ae.out (bs HB.out)); (case Y => exact af.out); rintro e a7 ⟨rfl, hb⟩; refine ⟨_, rfl, ?_⟩; replace s := bb s hb rfl; replace D := bb D hb rfl; replace HB := hs HB hb; (try clear hb)))
   go_ret
   exact ⟨_, eqr, by first | exact Kd.R_nil _ _ _ _ _ | exact Kd.N_nil _ _ _ _ _ | exact Kd.V_nil _ _ _ _ _ | exact Kd.Q_nil _ _ _ _ _ | exact Kd.S_nil _ _ _ _ _, bs HB.out⟩
  ·rw [if_neg c6] at H
   have aG : decide (ab < 0) = false := decide_eq_false c6
   clear c6
   replace H := Option.bind_eq_some_iff.mp H
   obtain ⟨ah, aB, H⟩ := H
   try dsimp -simprocs only at H
   have aH := am aB
   clear aB
   replace H := Option.bind_eq_some_iff.mp H
   obtain ⟨⟨aI, aJ⟩, aC, H⟩ := H
   try dsimp -simprocs only at H
   have aK := am aC
   clear aC
   obtain rfl := Option.some.inj H
   go_enter Try.func59, Try.ntmps59
   go_wp2_with (first | ((with_reducible refine gd 2 rfl ?_); refine bx 2 (cs := #[.slice L y.length M, .slice O z.length T]) (t := 34) ?_; intro aw hg a8 hbox hb; have s := am hbox; have ax := gwb HB hg; replace HB := hs HB hb; clear hb hbox hg) | ((with_reducible refine gd 3 rfl ?_); refine bx 3 (cs := #[.int .i64 Z, .int .i64 aa]) (t := 36) ?_; intro ay hg aL hbox hb; have D := am hbox; have az := gwb HB hg; replace HB := hs HB hb; have ai := nq s hg; have aj := nq' s hg; replace s := bb s hb rfl; clear hb hbox hg; have a9 := ai.out; have ba := aj.out; obtain ⟨bc, be⟩ := bc2 (w := aL) s.out; have bg := blk_frozen s.out) | ((with_reducible refine gc 34 rfl ?_); refine gl 9 Try.func34 #[.agg #[.slice L y.length M, .slice O z.length T]] ?_; (with_reducible refine (impl_GraphOk.calls k _ _ y _ _ z true _ ?I ?J ?X ?Y A3.out).mono ?_); (case I => exact Kd.C_below ac.out (bs HB.out)); (case J => exact ad.out); (case X => exact Kd.C_below ae.out (bs HB.out)); (case Y => exact af.out); rintro e aD ⟨rfl, hb⟩; refine ⟨_, rfl, ?_⟩; replace s := bb s hb rfl; replace D := bb D hb rfl; replace HB := hs HB hb; (try clear hb); obtain ⟨bh, bi⟩ := bc2 (w := aD) s.out; have bj := blk_frozen s.out; obtain ⟨bk, bl⟩ := bc2 (w := aD) D.out; have bm := blk_frozen D.out) | ((with_reducible refine gc 67 rfl ?_); refine gl 13 Try.func67 #[.agg #[.slice L y.length M, .slice O z.length T], .agg #[.int .i64 Z, .int .i64 aa]] ?_; (with_reducible refine (impl_nodePlace.calls k _ _ y _ _ z Z aa ab _ ?I ?J ?X ?Y A5.out).mono ?_); (case I => exact Kd.C_below ac.out (bs HB.out)); (case J => exact ad.out); (case X => exact Kd.C_below ae.out (bs HB.out)); (case Y => exact af.out); rintro e aM ⟨rfl, hb⟩; refine ⟨_, rfl, ?_⟩; replace s := bb s hb rfl; replace D := bb D hb rfl; replace HB := hs HB hb; (try clear hb); obtain ⟨bn, bo⟩ := bc2 (w := aM) s.out; have br := blk_frozen s.out) | ((with_reducible refine gc 68 rfl ?_); refine gl 18 Try.func68 #[.agg #[.slice L y.length M, .slice O z.length T]] ?_; (with_reducible refine (impl_nearPlaces.calls k _ _ y _ _ z ah _ ?I ?J ?X ?Y aH.out).mono ?_); (case I => exact Kd.C_below ac.out (bs HB.out)); (case J => exact ad.out); (case X => exact Kd.C_below ae.out (bs HB.out)); (case Y => exact af.out); rintro e bt ⟨bu, rfl, ag, hb⟩; refine ⟨_, rfl, ?_⟩; have ak := am (Kd.S_lower ag (below_size (bs HB.out))); replace s := bb s hb rfl; replace D := bb D hb rfl; replace HB := hs HB hb; (try clear ag hb); obtain ⟨aN, aO, aP⟩ := Kd.S_slice ak.out; subst aP) | ((with_reducible refine gc 69 rfl ?_); refine gl 20 Try.func69 #[.slice aN ah.length aO, .int .i64 ab] ?_; (with_reducible refine (impl_stepsFrom.calls k _ _ ah ab aI aJ _ ?I ?J aK.out).mono ?_); (case I => repeat (first | exact (Kd.S_reads' ak.out).2.2 | (with_reducible refine Kd.C_alloc ?_ _) | (with_reducible refine Kd.C_drewN ?_ _) | (with_reducible refine Kd.C_drew ?_))); (case J => exact (Kd.S_reads' ak.out).2.1); rintro e bv ⟨bw, bz, rfl, ag, al, hb⟩; refine ⟨_, rfl, ?_⟩; replace ak := am (Kd.S_mono (Kd.S_told (Kd.S_told (Kd.S_old (by (with_reducible repeat (first | apply Kd.S_alloc | apply Kd.S_drewN | apply Kd.S_drew)); exact ak.out) hb) (Kd.R_base ag)) (Kd.R_base al)) (fun _ h_ => h_.1)); have aQ := am (Kd.R_lower ag (below_size (bs HB.out))); have bA := am (Kd.R_lower al (below_size (bs HB.out))); replace s := bb s hb rfl; replace D := bb D hb rfl; replace HB := hs HB hb; (try clear hb); (try clear hb2); (try clear hk); (try clear hi); (try clear ag); (try clear al)))
   go_ret
   exact ⟨_, eqr, by (with_reducible repeat (first | apply Kd.R_alloc | apply Kd.R_drewN | apply Kd.R_drew)); exact Kd.R_mono aQ.out (fun _ hk => trivial), bs HB.out⟩
 ·replace c4 := Bool.eq_false_iff.mpr c4
  subst c4
  have H1 : (some ([] : List Int)) = some r := by rw [if_neg (show ¬ (false = true) by decide)] at H; exact H
  clear H
  have H := H1
  clear H1
  obtain rfl := Option.some.inj H
  go_enter Try.func59, Try.ntmps59
  go_wp2_with (first | ((with_reducible refine gd 2 rfl ?_); refine bx 2 (cs := #[.slice L y.length M, .slice O z.length T]) (t := 34) ?_; intro aw hg bB hbox hb; have s := am hbox; have ax := gwb HB hg; replace HB := hs HB hb; clear hb hbox hg) | ((with_reducible refine gd 3 rfl ?_); refine bx 3 (cs := #[.int .i64 Z, .int .i64 aa]) (t := 36) ?_; intro ay hg aR hbox hb; have D := am hbox; have az := gwb HB hg; replace HB := hs HB hb; have ai := nq s hg; have aj := nq' s hg; replace s := bb s hb rfl; clear hb hbox hg; have bC := ai.out; have bD := aj.out; obtain ⟨bE, bF⟩ := bc2 (w := aR) s.out; have bG := blk_frozen s.out) | ((with_reducible refine gc 34 rfl ?_); refine gl 9 Try.func34 #[.agg #[.slice L y.length M, .slice O z.length T]] ?_; (with_reducible refine (impl_GraphOk.calls k _ _ y _ _ z false _ ?I ?J ?X ?Y A3.out).mono ?_); (case I => exact Kd.C_below ac.out (bs HB.out)); (case J => exact ad.out); (case X => exact Kd.C_below ae.out (bs HB.out)); (case Y => exact af.out); rintro e bH ⟨rfl, hb⟩; refine ⟨_, rfl, ?_⟩; replace s := bb s hb rfl; replace D := bb D hb rfl; replace HB := hs HB hb; (try clear hb)))
  go_ret
  exact ⟨_, eqr, by first | exact Kd.R_nil _ _ _ _ _ | exact Kd.N_nil _ _ _ _ _ | exact Kd.V_nil _ _ _ _ _ | exact Kd.Q_nil _ _ _ _ _ | exact Kd.S_nil _ _ _ _ _, bs HB.out⟩

/-! ### laws_FnExactWalkDist: function 15 -/
def laws_FnExactWalkDist.j0 : Nat → List Int → List Int → Bool → List (S27) → List (S70) → Int → Int → Option (Bool)
 | 0, _, _, _, _, _, _, _ => none
 | k + 1, I, J, L, M, O, T, X => if L = true then (some false) else ((laws_markIntS.f k J 1).bind fun s => ((laws_heldIntS.f k s.2 1).bind fun y => (if y < 0 then (some false) else (if y = s.1 then ((laws_toGraph.f k M O).bind fun z => ((laws_toNode.f T X).bind fun D => ((impl_WalkDist.f k z.1 z.2 D.1 D.2).bind fun Y => ((laws_eqIntS.f k Y I).bind fun Z => (if Z = true then ((laws_heldIntS.f k s.2 1).bind fun G => (if G < 0 then (some false) else (if G = s.1 then (some true) else (some false)))) else (some false)))))) else (some false)))))
def laws_FnExactWalkDist.f (k : Nat) (s : List (S27)) (y : List (S70)) (D : Int) (G : Int) : Option (Bool) := (laws_szGraph.f s y 1048576).bind fun X => (if X < 0 then (some true) else ((laws_toGraph.f k s y).bind fun L => ((laws_toNode.f D G).bind fun M => ((spec_WalkDist.f k L.1 L.2 M.1 M.2).bind fun I => ((laws_toGraph.f k s y).bind fun z => ((laws_toNode.f D G).bind fun O => ((impl_WalkDist.f k z.1 z.2 O.1 O.2).bind fun J => ((laws_eqIntS.f k J I).bind fun Y => (if Y = true then ((laws_toGraph.f k s y).bind fun T => ((laws_eqGraph.f k z.1 z.2 T.1 T.2).bind fun Z => (if Z = true then ((laws_markGraph.f k z.1 z.2 1).bind fun aa => (if aa.1 < 0 then (laws_FnExactWalkDist.j0 k I J true s y D G) else ((laws_eqIntS.f k J I).bind fun ab => (laws_FnExactWalkDist.j0 k I J (!ab) s y D G)))) else (some false)))) else (some false))))))))))
theorem laws_FnExactWalkDist.calls (k : Nat) (av : Option Addr) (aw : Nat) (X : List (S27)) (ax : Option Addr) (ay : Nat) (Y : List (S70)) (an : Int) (ao : Int) (r : Bool) (hT : Aside0 (r = true)) (w : World) (b2 : Kd.C k27 w av X.length X) (b3 : X.length ≤ aw) (b4 : Kd.C k70 w ax Y.length Y) (b5 : Y.length ≤ ay) (h : laws_FnExactWalkDist.f k X Y an ao = some r) :
  Calls Try.prog 15 #[.agg #[.slice av X.length aw, .slice ax Y.length ay], .agg #[.int .i64 an, .int .i64 ao]] w fun e w' => e = .returned (.bool r) ∧ Below w.heap.size w w' := by
 have hu25 := Try.underlying25
 have hu27 := Try.underlying27
 have hu34 := Try.underlying34
 have bh := am b2
 have bi := am b3
 clear b2 b3
 have bj := am b4
 have bk := am b5
 clear b4 b5
 have HB := am (Below.refl w.heap.size w)
 have H := h; unfold laws_FnExactWalkDist.f at H
 clear h
 replace H := Option.bind_eq_some_iff.mp H
 obtain ⟨bz, b6, H⟩ := H
 try dsimp -simprocs only at H
 have A3 := am b6
 clear b6
 by_cases c4 : bz < 0
 ·rw [if_pos c4] at H
  have cN : decide (bz < 0) = true := decide_eq_true c4
  clear c4
  obtain rfl := Option.some.inj H
  go_enter Try.func15, Try.ntmps15
  go_wp2_with (first | ((with_reducible refine gd 2 rfl ?_); refine bx 2 (cs := #[.slice av X.length aw, .slice ax Y.length ay]) (t := 25) ?_; intro aK hg w5 hbox hb; have s := am hbox; have cO := gwb HB hg; replace HB := hs HB hb; clear hb hbox hg) | ((with_reducible refine gd 3 rfl ?_); refine bx 3 (cs := #[.int .i64 an, .int .i64 ao]) (t := 27) ?_; intro aL hg w6 hbox hb; have y := am hbox; have cP := gwb HB hg; replace HB := hs HB hb; have bN := nq s hg; have bO := nq' s hg; replace s := bb s hb rfl; clear hb hbox hg; have d0 := bN.out; have d1 := bO.out; obtain ⟨d2, d3⟩ := bc2 (w := w6) s.out; have d4 := blk_frozen s.out) | ((with_reducible refine gc 16 rfl ?_); refine gl 15 Try.func16 #[.agg #[.slice av X.length aw, .slice ax Y.length ay], .int .i64 1048576] ?_; (with_reducible refine (laws_szGraph.calls _ _ X _ _ Y 1048576 bz _ ?Z ?aa ?ai ?ak A3.out).mono ?_); (case Z => exact Kd.C_below bh.out (bs HB.out)); (case aa => exact bi.out); (case ai => exact Kd.C_below bj.out (bs HB.out)); (case ak => exact bk.out); rintro e w9 ⟨rfl, hb⟩; refine ⟨_, rfl, ?_⟩; replace s := bb s hb rfl; replace y := bb y hb rfl; replace HB := hs HB hb; (try clear hb)))
  go_ret
  exact ⟨eqr, bs HB.out⟩
 ·rw [if_neg c4] at H
  have cN : decide (bz < 0) = false := decide_eq_false c4
  clear c4
  replace H := Option.bind_eq_some_iff.mp H
  obtain ⟨⟨aR, aS⟩, b7, H⟩ := H
  try dsimp -simprocs only at H
  have cQ := am b7
  clear b7
  replace H := Option.bind_eq_some_iff.mp H
  obtain ⟨⟨bP, bQ⟩, b8, H⟩ := H
  try dsimp -simprocs only at H
  have cR := am b8
  clear b8
  replace H := Option.bind_eq_some_iff.mp H
  obtain ⟨al, b9, H⟩ := H
  try dsimp -simprocs only at H
  have cS := am b9
  clear b9
  replace H := Option.bind_eq_some_iff.mp H
  obtain ⟨⟨J, L⟩, ce, H⟩ := H
  try dsimp -simprocs only at H
  have cT := am ce
  clear ce
  replace H := Option.bind_eq_some_iff.mp H
  obtain ⟨⟨bR, bS⟩, cf, H⟩ := H
  try dsimp -simprocs only at H
  have cU := am cf
  clear cf
  replace H := Option.bind_eq_some_iff.mp H
  obtain ⟨ac, cg, H⟩ := H
  try dsimp -simprocs only at H
  have cV := am cg
  clear cg
  replace H := Option.bind_eq_some_iff.mp H
  obtain ⟨cW, ch, H⟩ := H
  try dsimp -simprocs only at H
  have cX := am ch
  clear ch
  by_cases bA : cW = true
  ·subst bA
   replace H : ((laws_toGraph.f k X Y).bind fun ci => ((laws_eqGraph.f k J L ci.1 ci.2).bind fun bT => (if bT = true then ((laws_markGraph.f k J L 1).bind fun bU => (if bU.1 < 0 then (laws_FnExactWalkDist.j0 k al ac true X Y an ao) else ((laws_eqIntS.f k ac al).bind fun bl => (laws_FnExactWalkDist.j0 k al ac (!bl) X Y an ao)))) else (some false)))) = some r := by rw [if_pos rfl] at H; exact H
   replace H := Option.bind_eq_some_iff.mp H
   obtain ⟨⟨bG, bH⟩, cj, H⟩ := H
   try dsimp -simprocs only at H
   have cY := am cj
   clear cj
   replace H := Option.bind_eq_some_iff.mp H
   obtain ⟨bT, ck, H⟩ := H
   try dsimp -simprocs only at H
   have cZ := am ck
   clear ck
   by_cases bB : bT = true
   ·subst bB
    replace H : ((laws_markGraph.f k J L 1).bind fun bU => (if bU.1 < 0 then (laws_FnExactWalkDist.j0 k al ac true X Y an ao) else ((laws_eqIntS.f k ac al).bind fun bl => (laws_FnExactWalkDist.j0 k al ac (!bl) X Y an ao)))) = some r := by rw [if_pos rfl] at H; exact H
    replace H := Option.bind_eq_some_iff.mp H
    obtain ⟨⟨bI, bC, bD⟩, cl, H⟩ := H
    try dsimp -simprocs only at H
    have c0 := am cl
    clear cl
    have bV := am H
    clear H
    go_enter Try.func15, Try.ntmps15
    try go_wp2_with (first | ((with_reducible refine gd 2 rfl ?_); refine bx 2 (cs := #[.slice av X.length aw, .slice ax Y.length ay]) (t := 25) ?_; intro aK hg d5 hbox hb; have s := am hbox; have cO := gwb HB hg; replace HB := hs HB hb; clear hb hbox hg) | ((with_reducible refine gd 3 rfl ?_); refine bx 3 (cs := #[.int .i64 an, .int .i64 ao]) (t := 27) ?_; intro aL hg c7 hbox hb; have y := am hbox; have cP := gwb HB hg; replace HB := hs HB hb; have bN := nq s hg; have bO := nq' s hg; replace s := bb s hb rfl; clear hb hbox hg; have d6 := bN.out; have d7 := bO.out; obtain ⟨c8, c9⟩ := bc2 (w := c7) s.out; have da := blk_frozen s.out) | ((with_reducible refine gc 16 rfl ?_); refine gl 15 Try.func16 #[.agg #[.slice av X.length aw, .slice ax Y.length ay], .int .i64 1048576] ?_; (with_reducible refine (laws_szGraph.calls _ _ X _ _ Y 1048576 bz _ ?Z ?aa ?ai ?ak A3.out).mono ?_); (case Z => exact Kd.C_below bh.out (bs HB.out)); (case aa => exact bi.out); (case ai => exact Kd.C_below bj.out (bs HB.out)); (case ak => exact bk.out); rintro e db ⟨rfl, hb⟩; refine ⟨_, rfl, ?_⟩; replace s := bb s hb rfl; replace y := bb y hb rfl; replace HB := hs HB hb; (try clear hb)))
    replace s := bd s
    replace y := bd y
    replace HB := hd HB
    refine sta 6 (fun w' => w'.cell? ⟨aK, 0, none⟩ = some (.slice av X.length aw) ∧ w'.cell? ⟨aK, 1, none⟩ = some (.slice ax Y.length ay) ∧ w'.cell? ⟨aL, 0, none⟩ = some (.int .i64 an) ∧ w'.cell? ⟨aL, 1, none⟩ = some (.int .i64 ao)) [] ⟨cx s 0, cx s 1, cx y 0, cx y 1⟩ (fun hHeld => ?_)
    generalize db.drew = d8 at s y HB hHeld ⊢
    refine tk 0 18 ?_
    refine tk 2 20 ?_
    refine on 1 19 (fun K hK => ?_)
    refine gs Try.func18 #[.agg #[.slice av X.length aw, .slice ax Y.length ay]] ?_
    with_reducible refine (laws_toGraph.calls k _ _ X _ _ Y aR aS _ ?Z ?aa ?ai ?ak cQ.out).mono ?_
    (case Z => exact Kd.C_below bh.out (bs HB.out))
    (case aa => exact bi.out)
    (case ai => exact Kd.C_below bj.out (bs HB.out))
    (case ak => exact bk.out)
    rintro e d9 ⟨ea, eb, rfl, aj, aB, hb⟩
    refine ⟨_, rfl, ?_⟩
    have M := am (Kd.R_lower aj (below_size (bs HB.out)))
    have O := am (Kd.R_lower aB (below_size (bs HB.out)))
    replace s := bb s hb rfl
    replace y := bb y hb rfl
    replace HB := hs HB hb
    (try clear hb)
    (try clear hb2)
    (try clear hk)
    (try clear hi)
    (try clear aj)
    (try clear aB)
    refine hK.out _ _ ⟨cx s 0, cx s 1, cx y 0, cx y 1⟩ (fun hHeld => ?_)
    clear hK K
    refine nrm 19 ?_
    refine on 3 21 (fun K hK => ?_)
    refine gs Try.func19 #[.agg #[.int .i64 an, .int .i64 ao]] ?_
    with_reducible refine (laws_toNode.calls an ao bP bQ _ cR.out).mono ?_
    rintro e ec ⟨rfl, hb⟩
    refine ⟨_, rfl, ?_⟩
    replace M := rb M hb
    replace O := rb O hb
    replace s := bb s hb rfl
    replace y := bb y hb rfl
    replace HB := hs HB hb
    (try clear hb)
    (try clear hb2)
    (try clear hk)
    (try clear hi)
    obtain ⟨bm, bn, cm⟩ := Kd.R_slice M.out
    (first | subst cm | (injection cm with az aM aA; have aN := az.symm; have aO := aA.symm; clear az aM aA; subst aN; subst aO))
    obtain ⟨bo, br, cn⟩ := Kd.R_slice O.out
    (first | subst cn | (injection cn with az aM aA; have aN := az.symm; have aO := aA.symm; clear az aM aA; subst aN; subst aO))
    refine hK.out _ _ ⟨cx s 0, cx s 1, cx y 0, cx y 1⟩ (fun hHeld => ?_)
    clear hK K
    refine nrm 21 ?_
    refine on 4 22 (fun K hK => ?_)
    refine gs Try.func58 #[.agg #[.slice bm aR.length bn, .slice bo aS.length br], .agg #[.int .i64 bP, .int .i64 bQ]] ?_
    with_reducible refine (spec_WalkDist.calls k _ _ aR _ _ aS bP bQ al _ ?Z ?aa ?ai ?ak cS.out).mono ?_
    (case Z => exact cr M)
    (case aa => exact cc M)
    (case ai => exact cr O)
    (case ak => exact cc O)
    rintro e dc ⟨dd, rfl, aj, hb⟩
    refine ⟨_, rfl, ?_⟩
    replace M := rb M hb
    replace O := rb O hb
    have T := am (Kd.R_lower aj (below_size (bs HB.out)))
    replace s := bb s hb rfl
    replace y := bb y hb rfl
    replace HB := hs HB hb
    (try clear hb)
    (try clear hb2)
    (try clear hk)
    (try clear hi)
    (try clear aj)
    refine hK.out _ _ ⟨cx s 0, cx s 1, cx y 0, cx y 1⟩ (fun hHeld => ?_)
    clear hK K
    refine nrm 22 ?_
    refine pu 5 6 ?_
    refine dn ?_
    obtain ⟨de, df⟩ := bc2 (w := dc) s.out
    have dg := blk_frozen s.out
    try go_wp2_with (first | ((with_reducible refine gc 18 rfl ?_); refine gl 24 Try.func18 #[.agg #[.slice av X.length aw, .slice ax Y.length ay]] ?_; (with_reducible refine (laws_toGraph.calls k _ _ X _ _ Y J L _ ?Z ?aa ?ai ?ak cT.out).mono ?_); (case Z => exact Kd.C_below bh.out (bs HB.out)); (case aa => exact bi.out); (case ai => exact Kd.C_below bj.out (bs HB.out)); (case ak => exact bk.out); rintro e ed ⟨ee, ef, rfl, aj, aB, hb⟩; refine ⟨_, rfl, ?_⟩; replace T := rb T hb; have G := am (Kd.R_lower (Kd.R_new' aj (rk M)) (below_size (bs HB.out))); replace M := re M aj hb; have I := am (Kd.R_lower (Kd.R_new' aB (rk O)) (below_size (bs HB.out))); replace O := re O aB hb; replace s := bb s hb rfl; replace y := bb y hb rfl; replace HB := hs HB hb; (try clear aj aB hb)) | ((with_reducible refine gd 7 rfl ?_); refine bx 7 (cs := #[.slice none 0 0, .slice none 0 0]) (t := 34) ?_; intro ah hg aP hbox hb; replace M := rb M hb; replace O := rb O hb; replace T := rb T hb; replace G := rb G hb; replace I := rb I hb; have z := am hbox; have eg := gwb HB hg; replace HB := hs HB hb; have dh := nq s hg; have di := nq' s hg; replace s := bb s hb rfl; have dj := nq y hg; have dk := nq' y hg; replace y := bb y hb rfl; clear hb hbox hg; obtain ⟨ad, ae, dl⟩ := Kd.R_slice G.out; subst dl; have eh := di.out; have ei := dh.out; have ej := dk.out; have ek := dj.out; obtain ⟨dm, dp⟩ := bc2 (w := aP) z.out; have dq := blk_frozen z.out; obtain ⟨af, ag, dr⟩ := Kd.R_slice I.out; subst dr))
    have aT : Aside0 (Kd.R k36 36 ((aP.setCell ⟨ah, 0, none⟩ (.slice ad J.length ae)).setCell ⟨ah, 1, none⟩ (.slice af L.length ag)) w.heap.size (fun k_ => some k_ ≠ (.slice ad J.length ae : Value).ownBlock) (.slice bm aR.length bn) aR) := ⟨Kd.R_mono (rt M.out z.out (by decide)) (fun _ hk => hk.2)⟩
    have aU : Aside0 (Kd.R k56 56 ((aP.setCell ⟨ah, 0, none⟩ (.slice ad J.length ae)).setCell ⟨ah, 1, none⟩ (.slice af L.length ag)) w.heap.size (fun k_ => some k_ ≠ (.slice af L.length ag : Value).ownBlock) (.slice bo aS.length br) aS) := ⟨Kd.R_mono (rt O.out z.out (by decide)) (fun _ hk => hk.2)⟩
    have aV : Aside0 (Kd.R (Kd.int .i64) 3 ((aP.setCell ⟨ah, 0, none⟩ (.slice ad J.length ae)).setCell ⟨ah, 1, none⟩ (.slice af L.length ag)) w.heap.size (fun _ => True) dd al) := ⟨Kd.R_mono (rt T.out z.out (by decide)) (fun _ hk => trivial)⟩
    have aW : Aside0 (Kd.R k36 36 ((aP.setCell ⟨ah, 0, none⟩ (.slice ad J.length ae)).setCell ⟨ah, 1, none⟩ (.slice af L.length ag)) w.heap.size (fun k_ => some k_ ≠ (.slice bm aR.length bn : Value).ownBlock) (.slice ad J.length ae) J) := ⟨Kd.R_mono (rt G.out z.out (by decide)) (fun _ hk => hk.2)⟩
    have aX : Aside0 (Kd.R k56 56 ((aP.setCell ⟨ah, 0, none⟩ (.slice ad J.length ae)).setCell ⟨ah, 1, none⟩ (.slice af L.length ag)) w.heap.size (fun k_ => some k_ ≠ (.slice bo aS.length br : Value).ownBlock) (.slice af L.length ag) L) := ⟨Kd.R_mono (rt I.out z.out (by decide)) (fun _ hk => hk.2)⟩
    have aY : Aside0 (((aP.setCell ⟨ah, 0, none⟩ (.slice ad J.length ae)).setCell ⟨ah, 1, none⟩ (.slice af L.length ag)).heap[aK]? = some (.cells #[.slice av X.length aw, .slice ax Y.length ay] 25 (0, 0))) := ⟨bf s.out⟩
    have aZ : Aside0 (((aP.setCell ⟨ah, 0, none⟩ (.slice ad J.length ae)).setCell ⟨ah, 1, none⟩ (.slice af L.length ag)).heap[aL]? = some (.cells #[.int .i64 an, .int .i64 ao] 27 (0, 0))) := ⟨bf y.out⟩
    have a4 : Aside0 (((aP.setCell ⟨ah, 0, none⟩ (.slice ad J.length ae)).setCell ⟨ah, 1, none⟩ (.slice af L.length ag)).heap[ah]? = some (.cells #[.slice ad J.length ae, .slice af L.length ag] 34 (0, 0))) := ⟨by (with_reducible repeat (first | refine blk_drewN ?_ _ | refine blk_drew ?_ | refine blk_alloc ?_ _)); refine blk_put (cs := #[.slice ad J.length ae, .slice none 0 0]) ?_ 1 _ rfl; (with_reducible repeat (first | refine blk_drewN ?_ _ | refine blk_drew ?_ | refine blk_alloc ?_ _)); refine blk_put (cs := #[.slice none 0 0, .slice none 0 0]) ?_ 0 _ rfl; exact bf z.out⟩
    have bt : Aside0 (Below w.heap.size w ((aP.setCell ⟨ah, 0, none⟩ (.slice ad J.length ae)).setCell ⟨ah, 1, none⟩ (.slice af L.length ag))) := ⟨bs HB.out⟩
    (try clear M)
    (try clear O)
    (try clear T)
    (try clear G)
    (try clear I)
    (try clear s)
    (try clear y)
    (try clear z)
    (try clear HB)
    generalize ((aP.setCell ⟨ah, 0, none⟩ (.slice ad J.length ae)).setCell ⟨ah, 1, none⟩ (.slice af L.length ag)) = dt at aT aU aV aW aX aY aZ a4 bt ⊢
    have M := aT
    have O := aU
    have T := aV
    have G := aW
    have I := aX
    have s := aY
    have y := aZ
    have z := a4
    have HB := bt
    clear aT aU aV aW aX aY aZ a4 bt
    replace M := rd_ M
    replace O := rd_ O
    replace T := rd_ T
    replace G := rd_ G
    replace I := rd_ I
    replace s := bd s
    replace y := bd y
    replace z := bd z
    replace HB := hd HB
    refine sta 5 (fun w' => w'.cell? ⟨ah, 0, none⟩ = some (.slice ad J.length ae) ∧ w'.cell? ⟨ah, 1, none⟩ = some (.slice af L.length ag) ∧ w'.cell? ⟨aL, 0, none⟩ = some (.int .i64 an) ∧ w'.cell? ⟨aL, 1, none⟩ = some (.int .i64 ao)) [] ⟨cx z 0, cx z 1, cx y 0, cx y 1⟩ (fun hHeld => ?_)
    generalize dt.drew = el at M O T G I s y z HB hHeld ⊢
    refine tk 0 25 ?_
    refine tk 1 26 ?_
    refine on 2 27 (fun K hK => ?_)
    refine gs Try.func19 #[.agg #[.int .i64 an, .int .i64 ao]] ?_
    with_reducible refine (laws_toNode.calls an ao bR bS _ cU.out).mono ?_
    rintro e em ⟨rfl, hb⟩
    refine ⟨_, rfl, ?_⟩
    replace M := rb M hb
    replace O := rb O hb
    replace T := rb T hb
    replace G := rb G hb
    replace I := rb I hb
    replace s := bb s hb rfl
    replace y := bb y hb rfl
    replace z := bb z hb rfl
    replace HB := hs HB hb
    (try clear hb)
    (try clear hb2)
    (try clear hk)
    (try clear hi)
    refine hK.out _ _ ⟨cx z 0, cx z 1, cx y 0, cx y 1⟩ (fun hHeld => ?_)
    clear hK K
    refine nrm 27 ?_
    refine on 3 28 (fun K hK => ?_)
    refine gs Try.func59 #[.agg #[.slice ad J.length ae, .slice af L.length ag], .agg #[.int .i64 bR, .int .i64 bS]] ?_
    with_reducible refine (impl_WalkDist.calls k _ _ J _ _ L bR bS ac _ ?Z ?aa ?ai ?ak cV.out).mono ?_
    (case Z => exact cr G)
    (case aa => exact cc G)
    (case ai => exact cr I)
    (case ak => exact cc I)
    rintro e aD ⟨en, rfl, aj, hb⟩
    refine ⟨_, rfl, ?_⟩
    replace M := rb M hb
    replace O := rb O hb
    replace G := rb G hb
    replace I := rb I hb
    have ap := am (Kd.R_lower (Kd.R_new' aj (rk T)) (below_size (bs HB.out)))
    replace T := re T aj hb
    replace s := bb s hb rfl
    replace y := bb y hb rfl
    replace z := bb z hb rfl
    replace HB := hs HB hb
    (try clear hb)
    (try clear hb2)
    (try clear hk)
    (try clear hi)
    (try clear aj)
    refine hK.out _ _ ⟨cx z 0, cx z 1, cx y 0, cx y 1⟩ (fun hHeld => ?_)
    clear hK K
    refine nrm 28 ?_
    refine pu 4 8 ?_
    refine dn ?_
    obtain ⟨aE, aF, du⟩ := Kd.R_slice ap.out
    subst du
    obtain ⟨a5, a6, dv⟩ := Kd.R_slice T.out
    subst dv
    try go_wp2_with (first | ((with_reducible refine gc 28 rfl ?_); refine gl 31 Try.func28 #[.slice aE ac.length aF, .slice a5 al.length a6] ?_; (with_reducible refine (laws_eqIntS.calls k _ _ ac _ _ al true _ ?Z ?aa ?ai ?ak cX.out).mono ?_); (case Z => exact cr ap); (case aa => exact cc ap); (case ai => exact cr T); (case ak => exact cc T); rintro e w' ⟨rfl, ⟨nd, rfl⟩⟩; refine ⟨_, rfl, ?_⟩))
    (try (rw [drewN_self aD]; generalize hq_ : World.drewN aD _ = aD; have aT : Aside0 (Kd.R k36 36 aD w.heap.size (fun k_ => some k_ ≠ (.slice ad J.length ae : Value).ownBlock) (.slice bm aR.length bn) aR) := ⟨by rw [← hq_]; exact (rl M.out)⟩; have aU : Aside0 (Kd.R k56 56 aD w.heap.size (fun k_ => some k_ ≠ (.slice af L.length ag : Value).ownBlock) (.slice bo aS.length br) aS) := ⟨by rw [← hq_]; exact (rl O.out)⟩; have aV : Aside0 (Kd.R (Kd.int .i64) 3 aD w.heap.size (fun k_ => some k_ ≠ (.slice aE ac.length aF : Value).ownBlock) (.slice a5 al.length a6) al) := ⟨by rw [← hq_]; exact (by (with_reducible repeat (first | apply Kd.R_alloc | apply Kd.R_drewN | apply Kd.R_drew)); exact Kd.R_mono T.out (fun _ hk => hk.2))⟩; have aW : Aside0 (Kd.R k36 36 aD w.heap.size (fun k_ => some k_ ≠ (.slice bm aR.length bn : Value).ownBlock) (.slice ad J.length ae) J) := ⟨by rw [← hq_]; exact (rl G.out)⟩; have aX : Aside0 (Kd.R k56 56 aD w.heap.size (fun k_ => some k_ ≠ (.slice bo aS.length br : Value).ownBlock) (.slice af L.length ag) L) := ⟨by rw [← hq_]; exact (rl I.out)⟩; have aY : Aside0 (Kd.R (Kd.int .i64) 3 aD w.heap.size (fun k_ => some k_ ≠ (.slice a5 al.length a6 : Value).ownBlock) (.slice aE ac.length aF) ac) := ⟨by rw [← hq_]; exact (by (with_reducible repeat (first | apply Kd.R_alloc | apply Kd.R_drewN | apply Kd.R_drew)); exact Kd.R_mono ap.out (fun _ hk => hk.2))⟩; have aZ : Aside0 (aD.heap[aK]? = some (.cells #[.slice av X.length aw, .slice ax Y.length ay] 25 (0, 0))) := ⟨by rw [← hq_]; exact (bf s.out)⟩; have a4 : Aside0 (aD.heap[aL]? = some (.cells #[.int .i64 an, .int .i64 ao] 27 (0, 0))) := ⟨by rw [← hq_]; exact (bf y.out)⟩; have bt : Aside0 (aD.heap[ah]? = some (.cells #[.slice ad J.length ae, .slice af L.length ag] 34 (0, 0))) := ⟨by rw [← hq_]; exact (bf z.out)⟩; have co : Aside0 (Below w.heap.size w aD) := ⟨by rw [← hq_]; exact (bs HB.out)⟩; clear M O T G I ap s y z HB hq_; have M := aT; have O := aU; have T := aV; have G := aW; have I := aX; have ap := aY; have s := aZ; have y := a4; have z := bt; have HB := co; clear aT aU aV aW aX aY aZ a4 bt co))
    replace M := rd_ M
    replace O := rd_ O
    replace T := rd_ T
    replace G := rd_ G
    replace I := rd_ I
    replace ap := rd_ ap
    replace s := bd s
    replace y := bd y
    replace z := bd z
    replace HB := hd HB
    refine sta 5 (fun w' => w'.cell? ⟨ah, 0, none⟩ = some (.slice ad J.length ae) ∧ w'.cell? ⟨ah, 1, none⟩ = some (.slice af L.length ag) ∧ w'.cell? ⟨aK, 0, none⟩ = some (.slice av X.length aw) ∧ w'.cell? ⟨aK, 1, none⟩ = some (.slice ax Y.length ay)) [] ⟨cx z 0, cx z 1, cx s 0, cx s 1⟩ (fun hHeld => ?_)
    generalize aD.drew = eo at M O T G I ap s y z HB hHeld ⊢
    refine tk 0 33 ?_
    refine tk 1 34 ?_
    refine on 2 35 (fun K hK => ?_)
    refine gs Try.func18 #[.agg #[.slice av X.length aw, .slice ax Y.length ay]] ?_
    with_reducible refine (laws_toGraph.calls k _ _ X _ _ Y bG bH _ ?Z ?aa ?ai ?ak cY.out).mono ?_
    (case Z => exact Kd.C_below bh.out (bs HB.out))
    (case aa => exact bi.out)
    (case ai => exact Kd.C_below bj.out (bs HB.out))
    (case ak => exact bk.out)
    rintro e ep ⟨eq, er, rfl, aj, aB, hb⟩
    refine ⟨_, rfl, ?_⟩
    replace T := rb T hb
    replace ap := rb ap hb
    have a7 := am (Kd.R_lower (Kd.R_new' (Kd.R_new' aj (rk M)) (rk G)) (below_size (bs HB.out)))
    replace M := re M aj hb
    replace G := re G aj hb
    have a8 := am (Kd.R_lower (Kd.R_new' (Kd.R_new' aB (rk O)) (rk I)) (below_size (bs HB.out)))
    replace O := re O aB hb
    replace I := re I aB hb
    replace s := bb s hb rfl
    replace y := bb y hb rfl
    replace z := bb z hb rfl
    replace HB := hs HB hb
    (try clear hb)
    (try clear hb2)
    (try clear hk)
    (try clear hi)
    (try clear aj)
    (try clear aB)
    obtain ⟨cp, ct, cu⟩ := Kd.R_slice a7.out
    (first | subst cu | (injection cu with az aM aA; have aN := az.symm; have aO := aA.symm; clear az aM aA; subst aN; subst aO))
    obtain ⟨cv, cy, cz⟩ := Kd.R_slice a8.out
    (first | subst cz | (injection cz with az aM aA; have aN := az.symm; have aO := aA.symm; clear az aM aA; subst aN; subst aO))
    refine hK.out _ _ ⟨cx z 0, cx z 1, cx s 0, cx s 1⟩ (fun hHeld => ?_)
    clear hK K
    refine nrm 35 ?_
    refine on 3 36 (fun K hK => ?_)
    refine gs Try.func22 #[.agg #[.slice ad J.length ae, .slice af L.length ag], .agg #[.slice cp bG.length ct, .slice cv bH.length cy]] ?_
    with_reducible refine (laws_eqGraph.calls k _ _ J _ _ L _ _ bG _ _ bH true _ ?Z ?aa ?ai ?ak ?dw ?dx ?dy ?dz cZ.out).mono ?_
    (case Z => exact cr G)
    (case aa => exact cc G)
    (case ai => exact cr I)
    (case ak => exact cc I)
    (case dw => exact cr a7)
    (case dx => exact cc a7)
    (case dy => exact cr a8)
    (case dz => exact cc a8)
    rintro e dA ⟨rfl, hb⟩
    refine ⟨_, rfl, ?_⟩
    replace M := rb M hb
    replace O := rb O hb
    replace T := rb T hb
    replace G := rb G hb
    replace I := rb I hb
    replace ap := rb ap hb
    replace a7 := rb a7 hb
    replace a8 := rb a8 hb
    replace s := bb s hb rfl
    replace y := bb y hb rfl
    replace z := bb z hb rfl
    replace HB := hs HB hb
    (try clear hb)
    (try clear hb2)
    (try clear hk)
    (try clear hi)
    refine hK.out _ _ ⟨cx z 0, cx z 1, cx s 0, cx s 1⟩ (fun hHeld => ?_)
    clear hK K
    refine nrm 36 ?_
    refine pu 4 37 ?_
    refine dn ?_
    obtain ⟨dB, dC⟩ := bc2 (w := dA) z.out
    have dD := blk_frozen z.out
    go_upto_region 14 with (first | ((with_reducible refine gc 23 rfl ?_); refine gl 40 Try.func23 #[.agg #[.slice ad J.length ae, .slice af L.length ag], .int .i64 1] ?_; (with_reducible refine (laws_markGraph.calls k (fun k_ => some k_ = (.slice ad J.length ae : Value).ownBlock) (.slice ad J.length ae) J (fun k_ => some k_ = (.slice af L.length ag : Value).ownBlock) (.slice af L.length ag) L 1 bI bC bD w _ ?Z ?aa ?ai c0.out).mono ?_); (case Z => exact bs HB.out); (case aa => exact Kd.R_tight rfl G.out); (case ai => exact Kd.R_tight rfl I.out); rintro e es ⟨rfl, bE, cA, hb, hkp⟩; refine ⟨_, rfl, ?_⟩; replace s := am (blk_kept (bf s.out) hkp (fun hs_ => Or.elim hs_ (fun e_ => (fun e_ => (Kd.R_ne G.out s.out (by decide)) e_) e_) (fun e_ => (fun e_ => (Kd.R_ne I.out s.out (by decide)) e_) e_))); replace y := am (blk_kept (bf y.out) hkp (fun hs_ => Or.elim hs_ (fun e_ => (fun e_ => (Kd.R_ne G.out y.out (by decide)) e_) e_) (fun e_ => (fun e_ => (Kd.R_ne I.out y.out (by decide)) e_) e_))); replace M := am (Kd.R_mono (ok' := fun k_ => some k_ ≠ (.slice ad J.length ae : Value).ownBlock ∧ some k_ ≠ (.slice cp bG.length ct : Value).ownBlock) (Kd.R_keptB ((Kd.R_apart' M.out (Kd.R_typed I.out) (by decide))) hkp (fun k_ hk_ hs_ => Or.elim hs_ (fun e_ => (hk_.1.1) e_) (fun e_ => (hk_.2) e_))) (fun k_ hk_ => ⟨hk_.1.1.1, hk_.1.1.2⟩)); replace O := am (Kd.R_mono (ok' := fun k_ => some k_ ≠ (.slice af L.length ag : Value).ownBlock ∧ some k_ ≠ (.slice cv bH.length cy : Value).ownBlock) (Kd.R_keptB ((Kd.R_apart' O.out (Kd.R_typed G.out) (by decide))) hkp (fun k_ hk_ hs_ => Or.elim hs_ (fun e_ => (hk_.2) e_) (fun e_ => (hk_.1.1) e_))) (fun k_ hk_ => ⟨hk_.1.1.1, hk_.1.1.2⟩)); replace T := am (Kd.R_mono (ok' := fun k_ => some k_ ≠ (.slice aE ac.length aF : Value).ownBlock) (Kd.R_keptB ((Kd.R_apart' (Kd.R_apart' T.out (Kd.R_typed G.out) (by decide)) (Kd.R_typed I.out) (by decide))) hkp (fun k_ hk_ hs_ => Or.elim hs_ (fun e_ => (hk_.1.2) e_) (fun e_ => (hk_.2) e_))) (fun k_ hk_ => by first | exact hk_.1.1.1.2 | exact hk_.1.1.1)); replace z := am (blk_kept (bf z.out) hkp (fun hs_ => Or.elim hs_ (fun e_ => (fun e_ => (Kd.R_ne G.out z.out (by decide)) e_) e_) (fun e_ => (fun e_ => (Kd.R_ne I.out z.out (by decide)) e_) e_))); replace ap := am (Kd.R_mono (ok' := fun k_ => some k_ ≠ (.slice a5 al.length a6 : Value).ownBlock) (Kd.R_keptB ((Kd.R_apart' (Kd.R_apart' ap.out (Kd.R_typed G.out) (by decide)) (Kd.R_typed I.out) (by decide))) hkp (fun k_ hk_ hs_ => Or.elim hs_ (fun e_ => (hk_.1.2) e_) (fun e_ => (hk_.2) e_))) (fun k_ hk_ => by first | exact hk_.1.1.1.2 | exact hk_.1.1.1)); replace a7 := am (Kd.R_mono (ok' := fun k_ => some k_ ≠ (.slice bm aR.length bn : Value).ownBlock ∧ some k_ ≠ (.slice ad J.length ae : Value).ownBlock) (Kd.R_keptB ((Kd.R_apart' a7.out (Kd.R_typed I.out) (by decide))) hkp (fun k_ hk_ hs_ => Or.elim hs_ (fun e_ => (hk_.1.2) e_) (fun e_ => (hk_.2) e_))) (fun k_ hk_ => ⟨hk_.1.1.1.2, hk_.1.1.2⟩)); replace I := am (Kd.R_reok rfl cA (fun k_ e_ => I.out.1 k_ e_)); replace a8 := am (Kd.R_mono (ok' := fun k_ => some k_ ≠ (.slice bo aS.length br : Value).ownBlock ∧ some k_ ≠ (.slice af L.length ag : Value).ownBlock) (Kd.R_keptB ((Kd.R_apart' a8.out (Kd.R_typed G.out) (by decide))) hkp (fun k_ hk_ hs_ => Or.elim hs_ (fun e_ => (hk_.2) e_) (fun e_ => (hk_.1.2) e_))) (fun k_ hk_ => ⟨hk_.1.1.1.2, hk_.1.1.2⟩)); replace G := am (Kd.R_reok rfl bE (fun k_ e_ => G.out.1 k_ e_)); replace HB := am hb; (try clear hb hkp); (try clear bE); (try clear cA)))
    (try simp only [Act.put, List.setIfInBounds_toArray, List.set_cons_zero, List.set_cons_succ])
    go_cut [48] (fun dE wc => ∃ (kq : Nat) (bJ : Bool), dE = .bool bJ ∧ Aside0 (laws_FnExactWalkDist.j0 kq al ac bJ X Y an ao = some r) ∧ Aside0 (kq ≤ k) ∧ Aside0 (Kd.R (Kd.int .i64) 3 wc w.heap.size (fun k_ => some k_ ≠ ((.slice aE ac.length aF) : Value).ownBlock) (.slice a5 al.length a6) al) ∧ Aside0 (Kd.R (Kd.int .i64) 3 wc w.heap.size (fun k_ => some k_ ≠ ((.slice a5 al.length a6) : Value).ownBlock) (.slice aE ac.length aF) ac) ∧ Aside0 (Kd.R k36 36 wc w.heap.size (fun _ => True) (.slice ad J.length ae) bC) ∧ Aside0 (Kd.R k56 56 wc w.heap.size (fun _ => True) (.slice af L.length ag) bD) ∧ Aside0 (wc.heap[aK]? = some (.cells #[(.slice av X.length aw), (.slice ax Y.length ay)] 25 (0, 0))) ∧ Aside0 (wc.heap[aL]? = some (.cells #[.int .i64 an, .int .i64 ao] 27 (0, 0))) ∧ Aside0 (wc.heap[ah]? = some (.cells #[(.slice ad J.length ae), (.slice af L.length ag)] 34 (0, 0))) ∧ Aside0 (Below w.heap.size w wc))
    case first =>
     have H := bV.out
     clear bV
     by_cases a9 : bI < 0
     ·rw [if_pos a9] at H
      have bu : decide (bI < 0) = true := decide_eq_true a9
      clear a9
      (first | rw [bu] | (simp only [i64_w, i32_w]; rw [bu]) | skip)
      have H' := am H
      clear H
      go_wp2
      go_meet
      case rel => exact ⟨_, (true), eqs, H', ⟨by first | omega | exact Nat.le_refl _⟩, ⟨rl T.out⟩, ⟨rl ap.out⟩, ⟨by (with_reducible repeat (first | apply Kd.R_alloc | apply Kd.R_drewN | apply Kd.R_drew)); exact Kd.R_mono G.out (fun _ hk => trivial)⟩, ⟨by (with_reducible repeat (first | apply Kd.R_alloc | apply Kd.R_drewN | apply Kd.R_drew)); exact Kd.R_mono I.out (fun _ hk => trivial)⟩, ⟨bf s.out⟩, ⟨bf y.out⟩, ⟨bf z.out⟩, ⟨bs HB.out⟩⟩
     ·rw [if_neg a9] at H
      have bu : decide (bI < 0) = false := decide_eq_false a9
      clear a9
      (first | rw [bu] | (simp only [i64_w, i32_w]; rw [bu]) | skip)
      replace H := Option.bind_eq_some_iff.mp H
      obtain ⟨bl, cB, H⟩ := H
      try dsimp -simprocs only at H
      have dF := am cB
      clear cB
      have H' := am H
      clear H
      go_wp2_with (first | (go_at_call 28; (with_reducible refine (laws_eqIntS.calls k _ _ ac _ _ al bl _ ?Z ?aa ?ai ?ak dF.out).mono ?_); (case Z => exact cr ap); (case aa => exact cc ap); (case ai => exact cr T); (case ak => exact cc T); rintro e w' ⟨rfl, ⟨nd, rfl⟩⟩))
      go_meet
      case rel => exact ⟨_, (!bl), eqs, H', ⟨by first | omega | exact Nat.le_refl _⟩, ⟨rl T.out⟩, ⟨rl ap.out⟩, ⟨by (with_reducible repeat (first | apply Kd.R_alloc | apply Kd.R_drewN | apply Kd.R_drew)); exact Kd.R_mono G.out (fun _ hk => trivial)⟩, ⟨by (with_reducible repeat (first | apply Kd.R_alloc | apply Kd.R_drewN | apply Kd.R_drew)); exact Kd.R_mono I.out (fun _ hk => trivial)⟩, ⟨bf s.out⟩, ⟨bf y.out⟩, ⟨bf z.out⟩, ⟨bs HB.out⟩⟩
    case rest =>
     clear bV
     try clear c1
     try clear c2
     try clear p2
     try clear c3
     try clear c5
     try clear et
     try clear eu
     try clear bA
     try clear ev
     try clear ew
     try clear bB
     try clear ex
     try clear ey
     try clear ez
     try clear eA
     try clear eB
     try clear eC
     try clear a9
     try clear bu
     try clear c8 c9
     try clear de df
     try clear dm dp
     try clear dB dC
     try clear da
     try clear dg
     try clear dq
     try clear dD
     obtain ⟨kq, bJ, rfl, HA, eD, aq, ab, ar, au, s, y, z, HB⟩ := hcut
     have hl406000_21 := (Kd.R_reads' ar.out).1
     rw [hl406000_21] at ar
     (try simp only [hl406000_21])
     (try simp only [hl406000_21] at s)
     (try simp only [hl406000_21] at y)
     (try simp only [hl406000_21] at z)
     (try simp only [hl406000_21] at aq)
     (try simp only [hl406000_21] at ab)
     (try simp only [hl406000_21] at au)
     have hl406001_21 := (Kd.R_reads' au.out).1
     rw [hl406001_21] at au
     (try simp only [hl406001_21])
     (try simp only [hl406001_21] at s)
     (try simp only [hl406001_21] at y)
     (try simp only [hl406001_21] at z)
     (try simp only [hl406001_21] at aq)
     (try simp only [hl406001_21] at ab)
     (try simp only [hl406001_21] at ar)
     cases kq with
     | zero => exact absurd HA.out (by simp [laws_FnExactWalkDist.j0])
     | succ aG =>
      have H := HA.out
      clear HA
      simp only [laws_FnExactWalkDist.j0] at H
      by_cases bK : bJ = true
      ·subst bK
       replace H : (some false) = some r := by rw [if_pos rfl] at H; exact H
       exact absurd (Option.some.inj H) (by rw [hT.out]; decide)
      ·replace bK := Bool.eq_false_iff.mpr bK
       subst bK
       have H1 : ((laws_markIntS.f aG ac 1).bind fun bL => ((laws_heldIntS.f aG bL.2 1).bind fun aH => (if aH < 0 then (some false) else (if aH = bL.1 then ((laws_toGraph.f aG X Y).bind fun cC => ((laws_toNode.f an ao).bind fun cD => ((impl_WalkDist.f aG cC.1 cC.2 cD.1 cD.2).bind fun bF => ((laws_eqIntS.f aG bF al).bind fun bW => (if bW = true then ((laws_heldIntS.f aG bL.2 1).bind fun aC => (if aC < 0 then (some false) else (if aC = bL.1 then (some true) else (some false)))) else (some false)))))) else (some false))))) = some r := by rw [if_neg (show ¬ (false = true) by decide)] at H; exact H
       clear H
       have H := H1
       clear H1
       replace H := Option.bind_eq_some_iff.mp H
       obtain ⟨⟨aI, aQ⟩, cE, H⟩ := H
       try dsimp -simprocs only at H
       have dG := am cE
       clear cE
       replace H := Option.bind_eq_some_iff.mp H
       obtain ⟨aH, cF, H⟩ := H
       try dsimp -simprocs only at H
       have dH := am cF
       clear cF
       by_cases bv : aH < 0
       ·rw [if_pos bv] at H
        have dI : decide (aH < 0) = true := decide_eq_true bv
        clear bv
        exact absurd (Option.some.inj H) (by rw [hT.out]; decide)
       ·rw [if_neg bv] at H
        have dI : decide (aH < 0) = false := decide_eq_false bv
        clear bv
        by_cases ba : aH = aI
        ·rw [if_pos ba] at H
         have dJ : (aH == aI) = true := beq_iff_eq.mpr ba
         have dK : (aH != aI) = false := bne_eq_false_iff_eq.mpr ba
         clear ba
         replace H := Option.bind_eq_some_iff.mp H
         obtain ⟨⟨bX, bY⟩, cG, H⟩ := H
         try dsimp -simprocs only at H
         have dL := am cG
         clear cG
         replace H := Option.bind_eq_some_iff.mp H
         obtain ⟨⟨bZ, b0⟩, cH, H⟩ := H
         try dsimp -simprocs only at H
         have dM := am cH
         clear cH
         replace H := Option.bind_eq_some_iff.mp H
         obtain ⟨bF, cI, H⟩ := H
         try dsimp -simprocs only at H
         have dN := am cI
         clear cI
         replace H := Option.bind_eq_some_iff.mp H
         obtain ⟨bW, cJ, H⟩ := H
         try dsimp -simprocs only at H
         have dO := am cJ
         clear cJ
         by_cases bM : bW = true
         ·subst bM
          replace H : ((laws_heldIntS.f aG aQ 1).bind fun aC => (if aC < 0 then (some false) else (if aC = aI then (some true) else (some false)))) = some r := by rw [if_pos rfl] at H; exact H
          replace H := Option.bind_eq_some_iff.mp H
          obtain ⟨aC, cK, H⟩ := H
          try dsimp -simprocs only at H
          have dP := am cK
          clear cK
          by_cases bw : aC < 0
          ·rw [if_pos bw] at H
           have dQ : decide (aC < 0) = true := decide_eq_true bw
           clear bw
           exact absurd (Option.some.inj H) (by rw [hT.out]; decide)
          ·rw [if_neg bw] at H
           have dQ : decide (aC < 0) = false := decide_eq_false bw
           clear bw
           by_cases bc : aC = aI
           ·rw [if_pos bc] at H
            have dR : (aC == aI) = true := beq_iff_eq.mpr bc
            have dS : (aC != aI) = false := bne_eq_false_iff_eq.mpr bc
            clear bc
            obtain rfl := Option.some.inj H
            try go_wp2_with (first | ((with_reducible refine gc 29 rfl ?_); refine gl 51 Try.func29 #[.slice aE ac.length aF, .int .i64 1] ?_; (with_reducible refine (laws_markIntS.calls aG (fun k_ => some k_ = (.slice aE ac.length aF : Value).ownBlock) (.slice aE ac.length aF) ac 1 aI aQ w _ ?Z ?aa dG.out).mono ?_); (case Z => exact bs HB.out); (case aa => exact Kd.R_tight rfl ab.out); rintro e aJ ⟨rfl, bE, hb, hkp⟩; refine ⟨_, rfl, ?_⟩; replace aq := am (Kd.R_mono (ok' := fun k_ => some k_ ≠ (.slice aE ac.length aF : Value).ownBlock) (Kd.R_keptB (aq.out) hkp (fun k_ hk_ hs_ => (hk_) hs_)) (fun k_ hk_ => hk_.1)); replace ar := am (Kd.R_mono (ok' := fun k_ => True) (Kd.R_keptB ((Kd.R_apart' ar.out (Kd.R_typed ab.out) (by decide))) hkp (fun k_ hk_ hs_ => (hk_.2) hs_)) (fun k_ hk_ => trivial)); replace au := am (Kd.R_mono (ok' := fun k_ => True) (Kd.R_keptB ((Kd.R_apart' au.out (Kd.R_typed ab.out) (by decide))) hkp (fun k_ hk_ hs_ => (hk_.2) hs_)) (fun k_ hk_ => trivial)); replace s := am (blk_kept (bf s.out) hkp (fun hs_ => (fun e_ => (Kd.R_ne ab.out s.out (by decide)) e_) hs_)); replace y := am (blk_kept (bf y.out) hkp (fun hs_ => (fun e_ => (Kd.R_ne ab.out y.out (by decide)) e_) hs_)); replace z := am (blk_kept (bf z.out) hkp (fun hs_ => (fun e_ => (Kd.R_ne ab.out z.out (by decide)) e_) hs_)); replace ab := am (Kd.R_reok rfl bE (fun k_ e_ => ab.out.1 k_ e_)); replace HB := am hb; (try clear hb hkp); (try clear bE)) | ((with_reducible refine gc 30 rfl ?_); refine goesL_ (some 54) rfl rfl Try.func30 (by kernel_rfl) rfl #[.slice aE aQ.length aF, .int .i64 1] rfl (by (try simp only [List.map_toArray, List.map_cons, List.map_nil]); first | done | (rw [show aQ.length = ac.length from (Kd.R_reads' ab.out).1.symm] <;> rfl) | rfl | (simp only [List.length_drop, List.length_take]; rfl)) ?_; (with_reducible refine (laws_heldIntS.calls aG _ _ aQ 1 aH _ ?Z ?aa dH.out).mono ?_); (case Z => exact cr ab); (case aa => rw [show aQ.length = ac.length from (Kd.R_reads' ab.out).1.symm]; exact cc ab); rintro e w' ⟨rfl, ⟨nd, rfl⟩⟩; refine ⟨_, rfl, ?_⟩))
            (try (rw [drewN_self aJ]; generalize hq_ : World.drewN aJ _ = aJ; have aT : Aside0 (Kd.R k36 36 aJ w.heap.size (fun _ => True) (.slice ad bC.length ae) bC) := ⟨by rw [← hq_]; exact (rl ar.out)⟩; have aU : Aside0 (Kd.R k56 56 aJ w.heap.size (fun _ => True) (.slice af bD.length ag) bD) := ⟨by rw [← hq_]; exact (rl au.out)⟩; have aV : Aside0 (Kd.R (Kd.int .i64) 3 aJ w.heap.size (fun k_ => some k_ ≠ (.slice aE ac.length aF : Value).ownBlock) (.slice a5 al.length a6) al) := ⟨by rw [← hq_]; exact (rl aq.out)⟩; have aW : Aside0 (Kd.R (Kd.int .i64) 3 aJ w.heap.size (fun k_ => some k_ ≠ (.slice a5 al.length a6 : Value).ownBlock) (.slice aE ac.length aF) aQ) := ⟨by rw [← hq_]; exact (rl ab.out)⟩; have aX : Aside0 (aJ.heap[aK]? = some (.cells #[.slice av X.length aw, .slice ax Y.length ay] 25 (0, 0))) := ⟨by rw [← hq_]; exact (bf s.out)⟩; have aY : Aside0 (aJ.heap[aL]? = some (.cells #[.int .i64 an, .int .i64 ao] 27 (0, 0))) := ⟨by rw [← hq_]; exact (bf y.out)⟩; have aZ : Aside0 (aJ.heap[ah]? = some (.cells #[.slice ad bC.length ae, .slice af bD.length ag] 34 (0, 0))) := ⟨by rw [← hq_]; exact (bf z.out)⟩; have a4 : Aside0 (Below w.heap.size w aJ) := ⟨by rw [← hq_]; exact (bs HB.out)⟩; clear ar au aq ab s y z HB hq_; have ar := aT; have au := aU; have aq := aV; have ab := aW; have s := aX; have y := aY; have z := aZ; have HB := a4; clear aT aU aV aW aX aY aZ a4))
            replace aq := rd_ aq
            replace ab := rd_ ab
            replace ar := rd_ ar
            replace au := rd_ au
            replace s := bd s
            replace y := bd y
            replace z := bd z
            replace HB := hd HB
            refine sta 6 (fun w' => w'.cell? ⟨aK, 0, none⟩ = some (.slice av X.length aw) ∧ w'.cell? ⟨aK, 1, none⟩ = some (.slice ax Y.length ay) ∧ w'.cell? ⟨aL, 0, none⟩ = some (.int .i64 an) ∧ w'.cell? ⟨aL, 1, none⟩ = some (.int .i64 ao)) [] ⟨cx s 0, cx s 1, cx y 0, cx y 1⟩ (fun hHeld => ?_)
            generalize aJ.drew = eE at aq ab ar au s y z HB hHeld ⊢
            refine tk 0 60 ?_
            refine tk 2 62 ?_
            refine on 1 61 (fun K hK => ?_)
            refine gs Try.func18 #[.agg #[.slice av X.length aw, .slice ax Y.length ay]] ?_
            with_reducible refine (laws_toGraph.calls aG _ _ X _ _ Y bX bY _ ?Z ?aa ?ai ?ak dL.out).mono ?_
            (case Z => exact Kd.C_below bh.out (bs HB.out))
            (case aa => exact bi.out)
            (case ai => exact Kd.C_below bj.out (bs HB.out))
            (case ak => exact bk.out)
            rintro e eF ⟨eG, eH, rfl, aj, aB, hb⟩
            refine ⟨_, rfl, ?_⟩
            replace aq := rb aq hb
            replace ab := rb ab hb
            have be := am (Kd.R_lower (Kd.R_new' aj (rk ar)) (below_size (bs HB.out)))
            replace ar := re ar aj hb
            have bg := am (Kd.R_lower (Kd.R_new' aB (rk au)) (below_size (bs HB.out)))
            replace au := re au aB hb
            replace s := bb s hb rfl
            replace y := bb y hb rfl
            replace z := bb z hb rfl
            replace HB := hs HB hb
            (try clear hb)
            (try clear hb2)
            (try clear hk)
            (try clear hi)
            (try clear aj)
            (try clear aB)
            refine hK.out _ _ ⟨cx s 0, cx s 1, cx y 0, cx y 1⟩ (fun hHeld => ?_)
            clear hK K
            refine nrm 61 ?_
            refine on 3 63 (fun K hK => ?_)
            refine gs Try.func19 #[.agg #[.int .i64 an, .int .i64 ao]] ?_
            with_reducible refine (laws_toNode.calls an ao bZ b0 _ dM.out).mono ?_
            rintro e eI ⟨rfl, hb⟩
            refine ⟨_, rfl, ?_⟩
            replace aq := rb aq hb
            replace ab := rb ab hb
            replace ar := rb ar hb
            replace au := rb au hb
            replace be := rb be hb
            replace bg := rb bg hb
            replace s := bb s hb rfl
            replace y := bb y hb rfl
            replace z := bb z hb rfl
            replace HB := hs HB hb
            (try clear hb)
            (try clear hb2)
            (try clear hk)
            (try clear hi)
            obtain ⟨dT, dU, cL⟩ := Kd.R_slice be.out
            (first | subst cL | (injection cL with az aM aA; have aN := az.symm; have aO := aA.symm; clear az aM aA; subst aN; subst aO))
            obtain ⟨dV, dW, cM⟩ := Kd.R_slice bg.out
            (first | subst cM | (injection cM with az aM aA; have aN := az.symm; have aO := aA.symm; clear az aM aA; subst aN; subst aO))
            refine hK.out _ _ ⟨cx s 0, cx s 1, cx y 0, cx y 1⟩ (fun hHeld => ?_)
            clear hK K
            refine nrm 63 ?_
            refine on 4 64 (fun K hK => ?_)
            refine gs Try.func59 #[.agg #[.slice dT bX.length dU, .slice dV bY.length dW], .agg #[.int .i64 bZ, .int .i64 b0]] ?_
            with_reducible refine (impl_WalkDist.calls aG _ _ bX _ _ bY bZ b0 bF _ ?Z ?aa ?ai ?ak dN.out).mono ?_
            (case Z => exact cr be)
            (case aa => exact cc be)
            (case ai => exact cr bg)
            (case ak => exact cc bg)
            rintro e eJ ⟨eK, rfl, aj, hb⟩
            refine ⟨_, rfl, ?_⟩
            replace ar := rb ar hb
            replace au := rb au hb
            replace be := rb be hb
            replace bg := rb bg hb
            have b1 := am (Kd.R_lower (Kd.R_new' (Kd.R_new' aj (rk aq)) (rk ab)) (below_size (bs HB.out)))
            replace aq := re aq aj hb
            replace ab := re ab aj hb
            replace s := bb s hb rfl
            replace y := bb y hb rfl
            replace z := bb z hb rfl
            replace HB := hs HB hb
            (try clear hb)
            (try clear hb2)
            (try clear hk)
            (try clear hi)
            (try clear aj)
            refine hK.out _ _ ⟨cx s 0, cx s 1, cx y 0, cx y 1⟩ (fun hHeld => ?_)
            clear hK K
            refine nrm 64 ?_
            refine pu 5 12 ?_
            refine dn ?_
            obtain ⟨dX, dY, dZ⟩ := Kd.R_slice b1.out
            subst dZ
            try go_wp2_with (first | ((with_reducible refine gc 28 rfl ?_); refine gl 67 Try.func28 #[.slice dX bF.length dY, .slice a5 al.length a6] ?_; (with_reducible refine (laws_eqIntS.calls aG _ _ bF _ _ al true _ ?Z ?aa ?ai ?ak dO.out).mono ?_); (case Z => exact cr b1); (case aa => exact cc b1); (case ai => exact cr aq); (case ak => exact cc aq); rintro e w' ⟨rfl, ⟨nd, rfl⟩⟩; refine ⟨_, rfl, ?_⟩) | ((with_reducible refine gc 30 rfl ?_); refine goesL_ (some 71) rfl rfl Try.func30 (by kernel_rfl) rfl #[.slice aE aQ.length aF, .int .i64 1] rfl (by (try simp only [List.map_toArray, List.map_cons, List.map_nil]); first | done | (rw [show aQ.length = ac.length from (Kd.R_reads' ab.out).1.symm] <;> rfl) | rfl | (simp only [List.length_drop, List.length_take]; rfl)) ?_; (with_reducible refine (laws_heldIntS.calls aG _ _ aQ 1 aC _ ?Z ?aa dP.out).mono ?_); (case Z => exact cr ab); (case aa => rw [show aQ.length = ac.length from (Kd.R_reads' ab.out).1.symm]; exact cc ab); rintro e w' ⟨rfl, ⟨nd, rfl⟩⟩; refine ⟨_, rfl, ?_⟩))
            go_ret
            exact ⟨eqr, bs HB.out⟩
           ·rw [if_neg bc] at H
            have dR : (aC == aI) = false := beq_eq_false_iff_ne.mpr bc
            have dS : (aC != aI) = true := bne_iff_ne.mpr bc
            exact absurd (Option.some.inj H) (by rw [hT.out]; decide)
         ·replace bM := Bool.eq_false_iff.mpr bM
          subst bM
          have H1 : (some false) = some r := by rw [if_neg (show ¬ (false = true) by decide)] at H; exact H
          clear H
          have H := H1
          clear H1
          exact absurd (Option.some.inj H) (by rw [hT.out]; decide)
        ·rw [if_neg ba] at H
         have dJ : (aH == aI) = false := beq_eq_false_iff_ne.mpr ba
         have dK : (aH != aI) = true := bne_iff_ne.mpr ba
         exact absurd (Option.some.inj H) (by rw [hT.out]; decide)
   ·replace bB := Bool.eq_false_iff.mpr bB
    subst bB
    have H1 : (some false) = some r := by rw [if_neg (show ¬ (false = true) by decide)] at H; exact H
    clear H
    have H := H1
    clear H1
    exact absurd (Option.some.inj H) (by rw [hT.out]; decide)
  ·replace bA := Bool.eq_false_iff.mpr bA
   subst bA
   have H1 : (some false) = some r := by rw [if_neg (show ¬ (false = true) by decide)] at H; exact H
   clear H
   have H := H1
   clear H1
   exact absurd (Option.some.inj H) (by rw [hT.out]; decide)

end Go.Proofs.Ytohmemckdogljaa.QFnExactWalkDist
