/- Contracts of the Go functions that this law reaches: each does what its plain Lean function says. No condition. -/
import Derived.Test.YtohmemckdogljaaQFnExactWalkPathx0
import Derived.Test.YtohmemckdogljaaQFnExactWalkPathx2
import Derived.Test.YtohmemckdogljaaQFnExactWalkPathx8
import Derived.Test.YtohmemckdogljaaQFnExactWalkPathx9
import Derived.Test.YtohmemckdogljaaQFnExactWalkPathx14
import Derived.Test.YtohmemckdogljaaQFnExactWalkPathx15
namespace Go.Proofs.Ytohmemckdogljaa.QFnExactWalkPath
open Go.RowKit Go.Proofs.YtohmemckdogljaaW.PrintWords Go.Proofs.YtohmemckdogljaaW.PrintLast Go.Proofs.YtohmemckdogljaaW.PrintMore Go.Proofs.Ytohmemckdogljaa.Bl
attribute [local go_sem] max2_int min2_int max_two min_two max_three min_three max_four min_four   -- for this text's walks alone
set_option linter.unusedVariables false
set_option linter.unusedSimpArgs false
set_option maxHeartbeats 8000000
set_option maxRecDepth 100000

/-! ### laws_FnExactWalkPath: function 3 -/
mutual
def laws_FnExactWalkPath.j0 : Nat → List (S36) → Bool → List (S36) → Bool → Bool → List (S27) → List (S70) → Int → Int → Int → Int → List (S36) → List (S56) → Option (Bool)
 | 0, _, _, _, _, _, _, _, _, _, _, _, _, _ => none
 | k + 1, s, y, z, Y, Z, D, G, I, J, L, M, O, T => if Z = true then (some false) else ((laws_toGraph.f k D G).bind fun X => ((laws_eqGraph.f k O T X.1 X.2).bind fun aa => (if aa = true then ((laws_markGraph.f k O T 1).bind fun ab => (if ab.1 < 0 then (laws_FnExactWalkPath.j1 k s y z true D G I J L M) else ((laws_eqNodeS.f k z s).bind fun ac => (if ac = true then (laws_FnExactWalkPath.j1 k s y z (Y != y) D G I J L M) else (laws_FnExactWalkPath.j1 k s y z true D G I J L M))))) else (some false))))
def laws_FnExactWalkPath.j1 : Nat → List (S36) → Bool → List (S36) → Bool → List (S27) → List (S70) → Int → Int → Int → Int → Option (Bool)
 | 0, _, _, _, _, _, _, _, _, _, _ => none
 | k + 1, J, L, M, O, T, X, Y, Z, aa, ab => if O = true then (some false) else ((laws_markNodeS.f k M 1).bind fun s => ((laws_heldNodeS.f k s.2 1).bind fun y => (if y < 0 then (some false) else (if y = s.1 then ((laws_toGraph.f k T X).bind fun z => ((laws_toNode.f Y Z).bind fun D => ((laws_toNode.f aa ab).bind fun G => ((impl_WalkPath.f k z.1 z.2 D.1 D.2 G.1 G.2).bind fun I => ((laws_eqNodeS.f k I.1 J).bind fun ac => (if ac = true then (laws_FnExactWalkPath.j2 k s.2 s.1 (I.2 != L)) else (laws_FnExactWalkPath.j2 k s.2 s.1 true))))))) else (some false)))))
def laws_FnExactWalkPath.j2 : Nat → List (S36) → Int → Bool → Option (Bool)
 | 0, _, _, _ => none
 | k + 1, y, z, D => if D = true then (some false) else ((laws_heldNodeS.f k y 1).bind fun s => (if s < 0 then (some false) else (if s = z then (some true) else (some false))))
end
def laws_FnExactWalkPath.f (k : Nat) (D : List (S27)) (G : List (S70)) (I : Int) (J : Int) (L : Int) (M : Int) : Option (Bool) := (laws_szGraph.f D G 1048576).bind fun aa => (if aa < 0 then (some true) else ((laws_toGraph.f k D G).bind fun O => ((laws_toNode.f I J).bind fun T => ((laws_toNode.f L M).bind fun X => ((spec_WalkPath.f k O.1 O.2 T.1 T.2 X.1 X.2).bind fun s => ((laws_toGraph.f k D G).bind fun y => ((laws_toNode.f I J).bind fun Y => ((laws_toNode.f L M).bind fun Z => ((impl_WalkPath.f k y.1 y.2 Y.1 Y.2 Z.1 Z.2).bind fun z => ((laws_eqNodeS.f k z.1 s.1).bind fun ab => (if ab = true then (laws_FnExactWalkPath.j0 k s.1 s.2 z.1 z.2 (z.2 != s.2) D G I J L M y.1 y.2) else (laws_FnExactWalkPath.j0 k s.1 s.2 z.1 z.2 true D G I J L M y.1 y.2))))))))))))
def laws_FnExactWalkPath.T5 : Bool × List (List Nat × List Nat) := (true, [([], []), ([0], [0]), ([], []), ([2, 1], [2]), ([], []), ([4, 3], [4]), ([1, 3, 5, 5], [1, 3, 5]), ([6], [6]), ([7], [7]), ([7], [7]), ([8, 6, 0, 1, 2, 3, 4, 5, 6, 7, 8], [8]), ([9, 10, 0, 1, 2, 3, 4, 5, 6, 7, 8, 9, 10], [9])])
def laws_FnExactWalkPath.B5 : List Nat := [0, 1, 0, 7, 0, 31, 63, 127, 255, 255, 511, 2047]
theorem laws_FnExactWalkPath.tab5 : rtab .any (opsOf Try.f3 5) = laws_FnExactWalkPath.T5 := by kernel_rfl
theorem laws_FnExactWalkPath.bits5 : waitsOk laws_FnExactWalkPath.T5.2 laws_FnExactWalkPath.B5 = true := by kernel_rfl
def laws_FnExactWalkPath.T7 : Bool × List (List Nat × List Nat) := (true, [([], []), ([], []), ([1], [1]), ([], []), ([3, 2], [3]), ([0, 2, 4, 4], [0, 2, 4]), ([5], [5]), ([6], [6]), ([6], [6]), ([7, 5, 0, 1, 2, 3, 4, 5, 6, 7], [7]), ([8, 9, 0, 1, 2, 3, 4, 5, 6, 7, 8, 9], [8])])
def laws_FnExactWalkPath.B7 : List Nat := [0, 0, 2, 0, 14, 31, 63, 127, 127, 255, 1023]
theorem laws_FnExactWalkPath.tab7 : rtab .any (opsOf Try.f3 7) = laws_FnExactWalkPath.T7 := by kernel_rfl
theorem laws_FnExactWalkPath.bits7 : waitsOk laws_FnExactWalkPath.T7.2 laws_FnExactWalkPath.B7 = true := by kernel_rfl
def laws_FnExactWalkPath.T24 : Bool × List (List Nat × List Nat) := (true, [([], []), ([0], [0]), ([], []), ([2, 1], [2]), ([], []), ([4, 3], [4]), ([1, 3, 5, 5], [1, 3, 5]), ([6], [6]), ([7], [7]), ([7], [7]), ([8, 6, 0, 1, 2, 3, 4, 5, 6, 7, 8], [8]), ([9, 10, 0, 1, 2, 3, 4, 5, 6, 7, 8, 9, 10], [9])])
def laws_FnExactWalkPath.B24 : List Nat := [0, 1, 0, 7, 0, 31, 63, 127, 255, 255, 511, 2047]
theorem laws_FnExactWalkPath.tab24 : rtab .any (opsOf Try.f3 24) = laws_FnExactWalkPath.T24 := by kernel_rfl
theorem laws_FnExactWalkPath.bits24 : waitsOk laws_FnExactWalkPath.T24.2 laws_FnExactWalkPath.B24 = true := by kernel_rfl
theorem laws_FnExactWalkPath.calls (k : Nat) (az : Option Addr) (aA : Nat) (Y : List (S27)) (aB : Option Addr) (aC : Nat) (Z : List (S70)) (ah : Int) (ai : Int) (aj : Int) (ak : Int) (r : Bool) (hT : Aside0 (r = true)) (w : World) (cM : Kd.C k27 w az Y.length Y) (cN : Y.length ≤ aA) (cO : Kd.C k70 w aB Z.length Z) (cP : Z.length ≤ aC) (h : laws_FnExactWalkPath.f k Y Z ah ai aj ak = some r) :
  Calls Try.prog 3 #[.agg #[.slice az Y.length aA, .slice aB Z.length aC], .agg #[.int .i64 ah, .int .i64 ai], .agg #[.int .i64 aj, .int .i64 ak]] w fun e w' => e = .returned (.bool r) ∧ Below w.heap.size w w' := by
 have hu25 := Try.underlying25
 have hu27 := Try.underlying27
 have hu34 := Try.underlying34
 have bm := am cM
 have bn := am cN
 clear cM cN
 have bo := am cO
 have br := am cP
 clear cO cP
 have HB := am (Below.refl w.heap.size w)
 have H := h; unfold laws_FnExactWalkPath.f at H
 clear h
 replace H := Option.bind_eq_some_iff.mp H
 obtain ⟨bK, cQ, H⟩ := H
 try dsimp -simprocs only at H
 have A4 := am cQ
 clear cQ
 by_cases c5 : bK < 0
 ·rw [if_pos c5] at H
  have d1 : decide (bK < 0) = true := decide_eq_true c5
  clear c5
  obtain rfl := Option.some.inj H
  go_enter Try.func3, Try.ntmps3
  go_wp2_with (first | ((with_reducible refine gd 3 rfl ?_); refine bx 3 (cs := #[.slice az Y.length aA, .slice aB Z.length aC]) (t := 25) ?_; intro aN hg w6 hbox hb; have s := am hbox; have d2 := gwb HB hg; replace HB := hs HB hb; clear hb hbox hg) | ((with_reducible refine gd 4 rfl ?_); refine bx 4 (cs := #[.int .i64 ah, .int .i64 ai]) (t := 27) ?_; intro aO hg w7 hbox hb; have y := am hbox; have d3 := gwb HB hg; replace HB := hs HB hb; have bZ := nq s hg; have b0 := nq' s hg; replace s := bb s hb rfl; clear hb hbox hg) | ((with_reducible refine gd 5 rfl ?_); refine bx 5 (cs := #[.int .i64 aj, .int .i64 ak]) (t := 27) ?_; intro aP hg w8 hbox hb; have z := am hbox; have d4 := gwb HB hg; replace HB := hs HB hb; have b1 := nq s hg; have b2 := nq' s hg; replace s := bb s hb rfl; have d5 := nq y hg; have d6 := nq' y hg; replace y := bb y hb rfl; clear hb hbox hg; have fl := bZ.out; have fm := b0.out; have fo := b1.out; have fp := b2.out; obtain ⟨fq, fr⟩ := bc2 (w := w8) s.out; have fs := blk_frozen s.out) | ((with_reducible refine gc 16 rfl ?_); refine gl 20 Try.func16 #[.agg #[.slice az Y.length aA, .slice aB Z.length aC], .int .i64 1048576] ?_; (with_reducible refine (laws_szGraph.calls _ _ Y _ _ Z 1048576 bK _ ?aa ?ab ?af ?al A4.out).mono ?_); (case aa => exact Kd.C_below bm.out (bs HB.out)); (case ab => exact bn.out); (case af => exact Kd.C_below bo.out (bs HB.out)); (case al => exact br.out); rintro e ft ⟨rfl, hb⟩; refine ⟨_, rfl, ?_⟩; replace s := bb s hb rfl; replace y := bb y hb rfl; replace z := bb z hb rfl; replace HB := hs HB hb; (try clear hb)))
  go_ret
  exact ⟨eqr, bs HB.out⟩
 ·rw [if_neg c5] at H
  have d1 : decide (bK < 0) = false := decide_eq_false c5
  clear c5
  replace H := Option.bind_eq_some_iff.mp H
  obtain ⟨⟨bh, bt⟩, cR, H⟩ := H
  try dsimp -simprocs only at H
  have d7 := am cR
  clear cR
  replace H := Option.bind_eq_some_iff.mp H
  obtain ⟨⟨b3, b4⟩, cS, H⟩ := H
  try dsimp -simprocs only at H
  have d8 := am cS
  clear cS
  replace H := Option.bind_eq_some_iff.mp H
  obtain ⟨⟨b5, b6⟩, cT, H⟩ := H
  try dsimp -simprocs only at H
  have d9 := am cT
  clear cT
  replace H := Option.bind_eq_some_iff.mp H
  obtain ⟨⟨ao, ax⟩, cU, H⟩ := H
  try dsimp -simprocs only at H
  have ea := am cU
  clear cU
  replace H := Option.bind_eq_some_iff.mp H
  obtain ⟨⟨O, ac⟩, cV, H⟩ := H
  try dsimp -simprocs only at H
  have eb := am cV
  clear cV
  replace H := Option.bind_eq_some_iff.mp H
  obtain ⟨⟨b7, b8⟩, cW, H⟩ := H
  try dsimp -simprocs only at H
  have ec := am cW
  clear cW
  replace H := Option.bind_eq_some_iff.mp H
  obtain ⟨⟨b9, ce⟩, cX, H⟩ := H
  try dsimp -simprocs only at H
  have ed := am cX
  clear cX
  replace H := Option.bind_eq_some_iff.mp H
  obtain ⟨⟨ad, a8⟩, cY, H⟩ := H
  try dsimp -simprocs only at H
  have ee := am cY
  clear cY
  have cf := am H
  clear H
  go_enter Try.func3, Try.ntmps3
  try go_wp2_with (first | ((with_reducible refine gd 3 rfl ?_); refine bx 3 (cs := #[.slice az Y.length aA, .slice aB Z.length aC]) (t := 25) ?_; intro aN hg fu hbox hb; have s := am hbox; have d2 := gwb HB hg; replace HB := hs HB hb; clear hb hbox hg) | ((with_reducible refine gd 4 rfl ?_); refine bx 4 (cs := #[.int .i64 ah, .int .i64 ai]) (t := 27) ?_; intro aO hg fv hbox hb; have y := am hbox; have d3 := gwb HB hg; replace HB := hs HB hb; have bZ := nq s hg; have b0 := nq' s hg; replace s := bb s hb rfl; clear hb hbox hg) | ((with_reducible refine gd 5 rfl ?_); refine bx 5 (cs := #[.int .i64 aj, .int .i64 ak]) (t := 27) ?_; intro aP hg ef hbox hb; have z := am hbox; have d4 := gwb HB hg; replace HB := hs HB hb; have b1 := nq s hg; have b2 := nq' s hg; replace s := bb s hb rfl; have d5 := nq y hg; have d6 := nq' y hg; replace y := bb y hb rfl; clear hb hbox hg; have fw := bZ.out; have fx := b0.out; have fy := b1.out; have fz := b2.out; obtain ⟨cg, ch⟩ := bc2 (w := ef) s.out; have ci := blk_frozen s.out) | ((with_reducible refine gc 16 rfl ?_); refine gl 20 Try.func16 #[.agg #[.slice az Y.length aA, .slice aB Z.length aC], .int .i64 1048576] ?_; (with_reducible refine (laws_szGraph.calls _ _ Y _ _ Z 1048576 bK _ ?aa ?ab ?af ?al A4.out).mono ?_); (case aa => exact Kd.C_below bm.out (bs HB.out)); (case ab => exact bn.out); (case af => exact Kd.C_below bo.out (bs HB.out)); (case al => exact br.out); rintro e eg ⟨rfl, hb⟩; refine ⟨_, rfl, ?_⟩; replace s := bb s hb rfl; replace y := bb y hb rfl; replace z := bb z hb rfl; replace HB := hs HB hb; (try clear hb)))
  replace s := bd s
  replace y := bd y
  replace z := bd z
  replace HB := hd HB
  refine sta 12 (fun w' => w'.cell? ⟨aN, 0, none⟩ = some (.slice az Y.length aA) ∧ w'.cell? ⟨aN, 1, none⟩ = some (.slice aB Z.length aC) ∧ w'.cell? ⟨aO, 0, none⟩ = some (.int .i64 ah) ∧ w'.cell? ⟨aO, 1, none⟩ = some (.int .i64 ai) ∧ w'.cell? ⟨aP, 0, none⟩ = some (.int .i64 aj) ∧ w'.cell? ⟨aP, 1, none⟩ = some (.int .i64 ak)) [] ⟨cx s 0, cx s 1, cx y 0, cx y 1, cx z 0, cx z 1⟩ (fun hHeld => ?_); refine with_tabW laws_FnExactWalkPath.tab5 laws_FnExactWalkPath.bits5 (fun HT_ HW_ => ?_)
  generalize eg.drew = fA at s y z HB hHeld ⊢
  refine tk 0 24 ?_
  refine tk 2 26 ?_
  refine tk 4 28 ?_
  refine on 1 25 (fun K hK => ?_)
  refine gs Try.func18 #[.agg #[.slice az Y.length aA, .slice aB Z.length aC]] ?_
  with_reducible refine (laws_toGraph.calls k _ _ Y _ _ Z bh bt _ ?aa ?ab ?af ?al d7.out).mono ?_
  (case aa => exact Kd.C_below bm.out (bs HB.out))
  (case ab => exact bn.out)
  (case af => exact Kd.C_below bo.out (bs HB.out))
  (case al => exact br.out)
  rintro e fB ⟨fC, fD, rfl, ae, aI, hb⟩
  refine ⟨_, rfl, ?_⟩
  have ag := am (Kd.R_lower ae (below_size (bs HB.out)))
  have ap := am (Kd.R_lower aI (below_size (bs HB.out)))
  replace s := bb s hb rfl
  replace y := bb y hb rfl
  replace z := bb z hb rfl
  replace HB := hs HB hb
  (try clear hb)
  (try clear hb2)
  (try clear hk)
  (try clear hi)
  (try clear ae)
  (try clear aI)
  refine hK.out _ _ ⟨cx s 0, cx s 1, cx y 0, cx y 1, cx z 0, cx z 1⟩ (fun hHeld => ?_)
  clear hK K
  refine nrm 25 ?_
  refine on 3 27 (fun K hK => ?_)
  refine gs Try.func19 #[.agg #[.int .i64 ah, .int .i64 ai]] ?_
  with_reducible refine (laws_toNode.calls ah ai b3 b4 _ d8.out).mono ?_
  rintro e fE ⟨rfl, hb⟩
  refine ⟨_, rfl, ?_⟩
  replace ag := rb ag hb
  replace ap := rb ap hb
  replace s := bb s hb rfl
  replace y := bb y hb rfl
  replace z := bb z hb rfl
  replace HB := hs HB hb
  (try clear hb)
  (try clear hb2)
  (try clear hk)
  (try clear hi)
  refine hK.out _ _ ⟨cx s 0, cx s 1, cx y 0, cx y 1, cx z 0, cx z 1⟩ (fun hHeld => ?_)
  clear hK K
  refine nrm 27 ?_
  refine on 5 29 (fun K hK => ?_)
  refine gs Try.func19 #[.agg #[.int .i64 aj, .int .i64 ak]] ?_
  with_reducible refine (laws_toNode.calls aj ak b5 b6 _ d9.out).mono ?_
  rintro e fF ⟨rfl, hb⟩
  refine ⟨_, rfl, ?_⟩
  replace ag := rb ag hb
  replace ap := rb ap hb
  replace s := bb s hb rfl
  replace y := bb y hb rfl
  replace z := bb z hb rfl
  replace HB := hs HB hb
  (try clear hb)
  (try clear hb2)
  (try clear hk)
  (try clear hi)
  obtain ⟨bS, bT, cZ⟩ := Kd.R_slice ag.out
  (first | subst cZ | (injection cZ with aD aX aE; have aY := aD.symm; have aZ := aE.symm; clear aD aX aE; subst aY; subst aZ))
  obtain ⟨cj, ck, c0⟩ := Kd.R_slice ap.out
  (first | subst c0 | (injection c0 with aD aX aE; have aY := aD.symm; have aZ := aE.symm; clear aD aX aE; subst aY; subst aZ))
  refine hK.out _ _ ⟨cx s 0, cx s 1, cx y 0, cx y 1, cx z 0, cx z 1⟩ (fun hHeld => ?_)
  clear hK K
  refine nrm 29 ?_
  refine on 6 30 (fun K hK => ?_)
  refine gs Try.func17 #[.agg #[.slice bS bh.length bT, .slice cj bt.length ck], .agg #[.int .i64 b3, .int .i64 b4], .agg #[.int .i64 b5, .int .i64 b6]] ?_
  with_reducible refine (spec_WalkPath.calls k _ _ bh _ _ bt b3 b4 b5 b6 ao ax _ ?aa ?ab ?af ?al ea.out).mono ?_
  (case aa => exact cr ag)
  (case ab => exact cc ag)
  (case af => exact cr ap)
  (case al => exact cc ap)
  rintro e eh ⟨aG, rfl, ae, hb⟩
  refine ⟨_, rfl, ?_⟩
  replace ap := rb ap hb
  have aq := am (Kd.R_lower (Kd.R_new' ae (rk ag)) (below_size (bs HB.out)))
  replace ag := re ag ae hb
  replace s := bb s hb rfl
  replace y := bb y hb rfl
  replace z := bb z hb rfl
  replace HB := hs HB hb
  (try clear hb)
  (try clear hb2)
  (try clear hk)
  (try clear hi)
  (try clear ae)
  refine hK.out _ _ ⟨cx s 0, cx s 1, cx y 0, cx y 1, cx z 0, cx z 1⟩ (fun hHeld => ?_)
  clear hK K
  refine nrm 30 ?_
  refine pu 7 23 ?_
  refine pu 8 31 ?_
  refine pu 9 32 ?_
  refine pu 10 8 ?_
  refine pu 11 9 ?_
  refine dn ?_
  obtain ⟨cl, cm⟩ := bc2 (w := eh) s.out
  have cn := blk_frozen s.out
  try go_wp2_with (first | ((with_reducible refine gc 18 rfl ?_); refine gl 34 Try.func18 #[.agg #[.slice az Y.length aA, .slice aB Z.length aC]] ?_; (with_reducible refine (laws_toGraph.calls k _ _ Y _ _ Z O ac _ ?aa ?ab ?af ?al eb.out).mono ?_); (case aa => exact Kd.C_below bm.out (bs HB.out)); (case ab => exact bn.out); (case af => exact Kd.C_below bo.out (bs HB.out)); (case al => exact br.out); rintro e fG ⟨fH, fI, rfl, ae, aI, hb⟩; refine ⟨_, rfl, ?_⟩; have av := am (Kd.R_lower (Kd.R_new' (Kd.R_new' ae (rk ag)) (rk aq)) (below_size (bs HB.out))); replace ag := re ag ae hb; replace aq := re aq ae hb; have aw := am (Kd.R_lower (Kd.R_new' aI (rk ap)) (below_size (bs HB.out))); replace ap := re ap aI hb; replace s := bb s hb rfl; replace y := bb y hb rfl; replace z := bb z hb rfl; replace HB := hs HB hb; (try clear ae aI hb)) | ((with_reducible refine gd 10 rfl ?_); refine bx 10 (cs := #[.slice none 0 0, .slice none 0 0]) (t := 34) ?_; intro an hg aQ hbox hb; replace ag := rb ag hb; replace ap := rb ap hb; replace aq := rb aq hb; replace av := rb av hb; replace aw := rb aw hb; have D := am hbox; have fJ := gwb HB hg; replace HB := hs HB hb; have c9 := nq s hg; have da := nq' s hg; replace s := bb s hb rfl; have db := nq y hg; have dc := nq' y hg; replace y := bb y hb rfl; have dd := nq z hg; have de := nq' z hg; replace z := bb z hb rfl; clear hb hbox hg; obtain ⟨T, X, ei⟩ := Kd.R_slice av.out; subst ei; have fK := da.out; have fL := c9.out; have fM := dc.out; have fN := db.out; have fO := de.out; have fP := dd.out; obtain ⟨co, cp⟩ := bc2 (w := aQ) D.out; have ct := blk_frozen D.out; obtain ⟨ar, au, ej⟩ := Kd.R_slice aw.out; subst ej))
  have bu : Aside0 (Kd.R k36 36 ((aQ.setCell ⟨an, 0, none⟩ (.slice T O.length X)).setCell ⟨an, 1, none⟩ (.slice ar ac.length au)) w.heap.size (fun k_ => some k_ ≠ (aG : Value).ownBlock ∧ some k_ ≠ (.slice T O.length X : Value).ownBlock) (.slice bS bh.length bT) bh) := ⟨Kd.R_mono (rt ag.out D.out (by decide)) (fun _ hk => ⟨hk.1.2, hk.2⟩)⟩
  have bv : Aside0 (Kd.R k56 56 ((aQ.setCell ⟨an, 0, none⟩ (.slice T O.length X)).setCell ⟨an, 1, none⟩ (.slice ar ac.length au)) w.heap.size (fun k_ => some k_ ≠ (.slice ar ac.length au : Value).ownBlock) (.slice cj bt.length ck) bt) := ⟨Kd.R_mono (rt ap.out D.out (by decide)) (fun _ hk => hk.2)⟩
  have bw : Aside0 (Kd.R k36 36 ((aQ.setCell ⟨an, 0, none⟩ (.slice T O.length X)).setCell ⟨an, 1, none⟩ (.slice ar ac.length au)) w.heap.size (fun k_ => some k_ ≠ (.slice bS bh.length bT : Value).ownBlock ∧ some k_ ≠ (.slice T O.length X : Value).ownBlock) aG ao) := ⟨Kd.R_mono (rt aq.out D.out (by decide)) (fun _ hk => ⟨hk.1.2, hk.2⟩)⟩
  have bz : Aside0 (Kd.R k36 36 ((aQ.setCell ⟨an, 0, none⟩ (.slice T O.length X)).setCell ⟨an, 1, none⟩ (.slice ar ac.length au)) w.heap.size (fun k_ => some k_ ≠ (.slice bS bh.length bT : Value).ownBlock ∧ some k_ ≠ (aG : Value).ownBlock) (.slice T O.length X) O) := ⟨Kd.R_mono (rt av.out D.out (by decide)) (fun _ hk => ⟨hk.1.2, hk.2⟩)⟩
  have bA : Aside0 (Kd.R k56 56 ((aQ.setCell ⟨an, 0, none⟩ (.slice T O.length X)).setCell ⟨an, 1, none⟩ (.slice ar ac.length au)) w.heap.size (fun k_ => some k_ ≠ (.slice cj bt.length ck : Value).ownBlock) (.slice ar ac.length au) ac) := ⟨Kd.R_mono (rt aw.out D.out (by decide)) (fun _ hk => hk.2)⟩
  have bB : Aside0 (((aQ.setCell ⟨an, 0, none⟩ (.slice T O.length X)).setCell ⟨an, 1, none⟩ (.slice ar ac.length au)).heap[aN]? = some (.cells #[.slice az Y.length aA, .slice aB Z.length aC] 25 (0, 0))) := ⟨bf s.out⟩
  have bC : Aside0 (((aQ.setCell ⟨an, 0, none⟩ (.slice T O.length X)).setCell ⟨an, 1, none⟩ (.slice ar ac.length au)).heap[aO]? = some (.cells #[.int .i64 ah, .int .i64 ai] 27 (0, 0))) := ⟨bf y.out⟩
  have bD : Aside0 (((aQ.setCell ⟨an, 0, none⟩ (.slice T O.length X)).setCell ⟨an, 1, none⟩ (.slice ar ac.length au)).heap[aP]? = some (.cells #[.int .i64 aj, .int .i64 ak] 27 (0, 0))) := ⟨bf z.out⟩
  have bE : Aside0 (((aQ.setCell ⟨an, 0, none⟩ (.slice T O.length X)).setCell ⟨an, 1, none⟩ (.slice ar ac.length au)).heap[an]? = some (.cells #[.slice T O.length X, .slice ar ac.length au] 34 (0, 0))) := ⟨by (with_reducible repeat (first | refine blk_drewN ?_ _ | refine blk_drew ?_ | refine blk_alloc ?_ _)); refine blk_put (cs := #[.slice T O.length X, .slice none 0 0]) ?_ 1 _ rfl; (with_reducible repeat (first | refine blk_drewN ?_ _ | refine blk_drew ?_ | refine blk_alloc ?_ _)); refine blk_put (cs := #[.slice none 0 0, .slice none 0 0]) ?_ 0 _ rfl; exact bf D.out⟩
  have cu : Aside0 (Below w.heap.size w ((aQ.setCell ⟨an, 0, none⟩ (.slice T O.length X)).setCell ⟨an, 1, none⟩ (.slice ar ac.length au))) := ⟨bs HB.out⟩
  (try clear ag)
  (try clear ap)
  (try clear aq)
  (try clear av)
  (try clear aw)
  (try clear s)
  (try clear y)
  (try clear z)
  (try clear D)
  (try clear HB)
  generalize ((aQ.setCell ⟨an, 0, none⟩ (.slice T O.length X)).setCell ⟨an, 1, none⟩ (.slice ar ac.length au)) = ek at bu bv bw bz bA bB bC bD bE cu ⊢
  have ag := bu
  have ap := bv
  have aq := bw
  have av := bz
  have aw := bA
  have s := bB
  have y := bC
  have z := bD
  have D := bE
  have HB := cu
  clear bu bv bw bz bA bB bC bD bE cu
  replace ag := rd_ ag
  replace ap := rd_ ap
  replace aq := rd_ aq
  replace av := rd_ av
  replace aw := rd_ aw
  replace s := bd s
  replace y := bd y
  replace z := bd z
  replace D := bd D
  replace HB := hd HB
  refine sta 11 (fun w' => w'.cell? ⟨an, 0, none⟩ = some (.slice T O.length X) ∧ w'.cell? ⟨an, 1, none⟩ = some (.slice ar ac.length au) ∧ w'.cell? ⟨aO, 0, none⟩ = some (.int .i64 ah) ∧ w'.cell? ⟨aO, 1, none⟩ = some (.int .i64 ai) ∧ w'.cell? ⟨aP, 0, none⟩ = some (.int .i64 aj) ∧ w'.cell? ⟨aP, 1, none⟩ = some (.int .i64 ak)) [] ⟨cx D 0, cx D 1, cx y 0, cx y 1, cx z 0, cx z 1⟩ (fun hHeld => ?_); refine with_tabW laws_FnExactWalkPath.tab7 laws_FnExactWalkPath.bits7 (fun HT_ HW_ => ?_)
  generalize ek.drew = fQ at ag ap aq av aw s y z D HB hHeld ⊢
  refine tk 0 36 ?_
  refine tk 1 37 ?_
  refine tk 3 39 ?_
  refine on 2 38 (fun K hK => ?_)
  refine gs Try.func19 #[.agg #[.int .i64 ah, .int .i64 ai]] ?_
  with_reducible refine (laws_toNode.calls ah ai b7 b8 _ ec.out).mono ?_
  rintro e fR ⟨rfl, hb⟩
  refine ⟨_, rfl, ?_⟩
  replace ag := rb ag hb
  replace ap := rb ap hb
  replace aq := rb aq hb
  replace av := rb av hb
  replace aw := rb aw hb
  replace s := bb s hb rfl
  replace y := bb y hb rfl
  replace z := bb z hb rfl
  replace D := bb D hb rfl
  replace HB := hs HB hb
  (try clear hb)
  (try clear hb2)
  (try clear hk)
  (try clear hi)
  refine hK.out _ _ ⟨cx D 0, cx D 1, cx y 0, cx y 1, cx z 0, cx z 1⟩ (fun hHeld => ?_)
  clear hK K
  refine nrm 38 ?_
  refine on 4 40 (fun K hK => ?_)
  refine gs Try.func19 #[.agg #[.int .i64 aj, .int .i64 ak]] ?_
  with_reducible refine (laws_toNode.calls aj ak b9 ce _ ed.out).mono ?_
  rintro e fS ⟨rfl, hb⟩
  refine ⟨_, rfl, ?_⟩
  replace ag := rb ag hb
  replace ap := rb ap hb
  replace aq := rb aq hb
  replace av := rb av hb
  replace aw := rb aw hb
  replace s := bb s hb rfl
  replace y := bb y hb rfl
  replace z := bb z hb rfl
  replace D := bb D hb rfl
  replace HB := hs HB hb
  (try clear hb)
  (try clear hb2)
  (try clear hk)
  (try clear hi)
  refine hK.out _ _ ⟨cx D 0, cx D 1, cx y 0, cx y 1, cx z 0, cx z 1⟩ (fun hHeld => ?_)
  clear hK K
  refine nrm 40 ?_
  refine on 5 41 (fun K hK => ?_)
  refine gs Try.func20 #[.agg #[.slice T O.length X, .slice ar ac.length au], .agg #[.int .i64 b7, .int .i64 b8], .agg #[.int .i64 b9, .int .i64 ce]] ?_
  with_reducible refine (impl_WalkPath.calls k _ _ O _ _ ac b7 b8 b9 ce ad a8 _ ?aa ?ab ?af ?al ee.out).mono ?_
  (case aa => exact cr av)
  (case ab => exact cc av)
  (case af => exact cr aw)
  (case al => exact cc aw)
  rintro e fT ⟨ba, rfl, ae, hb⟩
  refine ⟨_, rfl, ?_⟩
  replace ap := rb ap hb
  replace aw := rb aw hb
  have aR := am (Kd.R_lower (Kd.R_new' (Kd.R_new' (Kd.R_new' ae (rk ag)) (rk aq)) (rk av)) (below_size (bs HB.out)))
  replace ag := re ag ae hb
  replace aq := re aq ae hb
  replace av := re av ae hb
  replace s := bb s hb rfl
  replace y := bb y hb rfl
  replace z := bb z hb rfl
  replace D := bb D hb rfl
  replace HB := hs HB hb
  (try clear hb)
  (try clear hb2)
  (try clear hk)
  (try clear hi)
  (try clear ae)
  refine hK.out _ _ ⟨cx D 0, cx D 1, cx y 0, cx y 1, cx z 0, cx z 1⟩ (fun hHeld => ?_)
  clear hK K
  refine nrm 41 ?_
  refine pu 6 35 ?_
  refine pu 7 42 ?_
  refine pu 8 43 ?_
  refine pu 9 11 ?_
  refine pu 10 12 ?_
  refine dn ?_
  go_upto_region 8 with (fail)
  go_cut [52] (fun el wc => ∃ (kq : Nat) (bU : Bool), el = .bool bU ∧ Aside0 (laws_FnExactWalkPath.j0 kq ao ax ad a8 bU Y Z ah ai aj ak O ac = some r) ∧ Aside0 (kq ≤ k) ∧ Aside0 (Kd.R k36 36 wc w.heap.size (fun k_ => some k_ ≠ (ba : Value).ownBlock ∧ some k_ ≠ ((.slice T O.length X) : Value).ownBlock) aG ao) ∧ Aside0 (Kd.R k36 36 wc w.heap.size (fun k_ => some k_ ≠ (aG : Value).ownBlock ∧ some k_ ≠ ((.slice T O.length X) : Value).ownBlock) ba ad) ∧ Aside0 (Kd.R k36 36 wc w.heap.size (fun k_ => some k_ ≠ (aG : Value).ownBlock ∧ some k_ ≠ (ba : Value).ownBlock) (.slice T O.length X) O) ∧ Aside0 (Kd.R k56 56 wc w.heap.size (fun _ => True) (.slice ar ac.length au) ac) ∧ Aside0 (wc.heap[aN]? = some (.cells #[(.slice az Y.length aA), (.slice aB Z.length aC)] 25 (0, 0))) ∧ Aside0 (wc.heap[aO]? = some (.cells #[.int .i64 ah, .int .i64 ai] 27 (0, 0))) ∧ Aside0 (wc.heap[aP]? = some (.cells #[.int .i64 aj, .int .i64 ak] 27 (0, 0))) ∧ Aside0 (wc.heap[an]? = some (.cells #[(.slice T O.length X), (.slice ar ac.length au)] 34 (0, 0))) ∧ Aside0 (Below w.heap.size w wc))
  case first =>
   have H := cf.out
   clear cf
   replace H := Option.bind_eq_some_iff.mp H
   obtain ⟨em, df, H⟩ := H
   try dsimp -simprocs only at H
   have dg := am df
   clear df
   by_cases bi : em = true
   ·subst bi
    replace H : (laws_FnExactWalkPath.j0 k ao ax ad a8 (a8 != ax) Y Z ah ai aj ak O ac) = some r := by rw [if_pos rfl] at H; exact H
    have H' := am H
    clear H
    obtain ⟨en, eo, ep⟩ := Kd.R_slice aR.out
    subst ep
    obtain ⟨eq, er, es⟩ := Kd.R_slice aq.out
    subst es
    go_wp2_with (first | ((with_reducible refine gc 21 rfl ?_); refine gl 46 Try.func21 #[.slice en ad.length eo, .slice eq ao.length er] ?_; (with_reducible refine (laws_eqNodeS.calls k _ _ ad _ _ ao true _ ?aa ?ab ?af ?al dg.out).mono ?_); (case aa => exact cr aR); (case ab => exact cc aR); (case af => exact cr aq); (case al => exact cc aq); rintro e fU ⟨rfl, hb⟩; refine ⟨_, rfl, ?_⟩; replace ag := rb ag hb; replace ap := rb ap hb; replace aq := rb aq hb; replace av := rb av hb; replace aw := rb aw hb; replace aR := rb aR hb; replace s := bb s hb rfl; replace y := bb y hb rfl; replace z := bb z hb rfl; replace D := bb D hb rfl; replace HB := hs HB hb; (try clear hb)))
    go_meet
    case rel => exact ⟨_, ((a8 != ax)), eqs, H', ⟨by first | omega | exact Nat.le_refl _⟩, ⟨by (with_reducible repeat (first | apply Kd.R_alloc | apply Kd.R_drewN | apply Kd.R_drew)); exact Kd.R_mono aq.out (fun _ hk => ⟨hk.2, hk.1.2⟩)⟩, ⟨by (with_reducible repeat (first | apply Kd.R_alloc | apply Kd.R_drewN | apply Kd.R_drew)); exact Kd.R_mono aR.out (fun _ hk => ⟨hk.1.2, hk.2⟩)⟩, ⟨by (with_reducible repeat (first | apply Kd.R_alloc | apply Kd.R_drewN | apply Kd.R_drew)); exact Kd.R_mono av.out (fun _ hk => ⟨hk.1.2, hk.2⟩)⟩, ⟨by (with_reducible repeat (first | apply Kd.R_alloc | apply Kd.R_drewN | apply Kd.R_drew)); exact Kd.R_mono aw.out (fun _ hk => trivial)⟩, ⟨bf s.out⟩, ⟨bf y.out⟩, ⟨bf z.out⟩, ⟨bf D.out⟩, ⟨bs HB.out⟩⟩
   ·replace bi := Bool.eq_false_iff.mpr bi
    subst bi
    have H1 : (laws_FnExactWalkPath.j0 k ao ax ad a8 true Y Z ah ai aj ak O ac) = some r := by rw [if_neg (show ¬ (false = true) by decide)] at H; exact H
    clear H
    have H := H1
    clear H1
    have H' := am H
    clear H
    obtain ⟨et, eu, ev⟩ := Kd.R_slice aR.out
    subst ev
    obtain ⟨ew, ex, ey⟩ := Kd.R_slice aq.out
    subst ey
    go_wp2_with (first | ((with_reducible refine gc 21 rfl ?_); refine gl 46 Try.func21 #[.slice et ad.length eu, .slice ew ao.length ex] ?_; (with_reducible refine (laws_eqNodeS.calls k _ _ ad _ _ ao false _ ?aa ?ab ?af ?al dg.out).mono ?_); (case aa => exact cr aR); (case ab => exact cc aR); (case af => exact cr aq); (case al => exact cc aq); rintro e fV ⟨rfl, hb⟩; refine ⟨_, rfl, ?_⟩; replace ag := rb ag hb; replace ap := rb ap hb; replace aq := rb aq hb; replace av := rb av hb; replace aw := rb aw hb; replace aR := rb aR hb; replace s := bb s hb rfl; replace y := bb y hb rfl; replace z := bb z hb rfl; replace D := bb D hb rfl; replace HB := hs HB hb; (try clear hb)))
    go_meet
    case rel => exact ⟨_, (true), eqs, H', ⟨by first | omega | exact Nat.le_refl _⟩, ⟨by (with_reducible repeat (first | apply Kd.R_alloc | apply Kd.R_drewN | apply Kd.R_drew)); exact Kd.R_mono aq.out (fun _ hk => ⟨hk.2, hk.1.2⟩)⟩, ⟨by (with_reducible repeat (first | apply Kd.R_alloc | apply Kd.R_drewN | apply Kd.R_drew)); exact Kd.R_mono aR.out (fun _ hk => ⟨hk.1.2, hk.2⟩)⟩, ⟨by (with_reducible repeat (first | apply Kd.R_alloc | apply Kd.R_drewN | apply Kd.R_drew)); exact Kd.R_mono av.out (fun _ hk => ⟨hk.1.2, hk.2⟩)⟩, ⟨by (with_reducible repeat (first | apply Kd.R_alloc | apply Kd.R_drewN | apply Kd.R_drew)); exact Kd.R_mono aw.out (fun _ hk => trivial)⟩, ⟨bf s.out⟩, ⟨bf y.out⟩, ⟨bf z.out⟩, ⟨bf D.out⟩, ⟨bs HB.out⟩⟩
  case rest =>
   clear cf
   try clear c1
   try clear c2
   try clear p2
   try clear c3
   try clear c4
   try clear c5
   try clear dh
   try clear di
   try clear dj
   try clear dk
   try clear dl
   try clear dm
   try clear dp
   try clear dq
   try clear dr
   try clear dt
   try clear du
   try clear bi
   try clear cg ch
   try clear cl cm
   try clear co cp
   try clear ci
   try clear cn
   try clear ct
   obtain ⟨kq, bU, rfl, HA, bL, M, I, L, J, s, y, z, D, HB⟩ := hcut
   cases kq with
   | zero => exact absurd HA.out (by simp [laws_FnExactWalkPath.j0])
   | succ ay =>
    have H := HA.out
    clear HA
    simp only [laws_FnExactWalkPath.j0] at H
    by_cases bF : bU = true
    ·subst bF
     replace H : (some false) = some r := by rw [if_pos rfl] at H; exact H
     exact absurd (Option.some.inj H) (by rw [hT.out]; decide)
    ·replace bF := Bool.eq_false_iff.mpr bF
     subst bF
     have H1 : ((laws_toGraph.f ay Y Z).bind fun dv => ((laws_eqGraph.f ay O ac dv.1 dv.2).bind fun cv => (if cv = true then ((laws_markGraph.f ay O ac 1).bind fun cy => (if cy.1 < 0 then (laws_FnExactWalkPath.j1 ay ao ax ad true Y Z ah ai aj ak) else ((laws_eqNodeS.f ay ad ao).bind fun bM => (if bM = true then (laws_FnExactWalkPath.j1 ay ao ax ad (a8 != ax) Y Z ah ai aj ak) else (laws_FnExactWalkPath.j1 ay ao ax ad true Y Z ah ai aj ak))))) else (some false)))) = some r := by rw [if_neg (show ¬ (false = true) by decide)] at H; exact H
     clear H
     have H := H1
     clear H1
     replace H := Option.bind_eq_some_iff.mp H
     obtain ⟨⟨bN, cz⟩, dw, H⟩ := H
     try dsimp -simprocs only at H
     have ez := am dw
     clear dw
     replace H := Option.bind_eq_some_iff.mp H
     obtain ⟨cv, dx, H⟩ := H
     try dsimp -simprocs only at H
     have eA := am dx
     clear dx
     by_cases bG : cv = true
     ·subst bG
      replace H : ((laws_markGraph.f ay O ac 1).bind fun cy => (if cy.1 < 0 then (laws_FnExactWalkPath.j1 ay ao ax ad true Y Z ah ai aj ak) else ((laws_eqNodeS.f ay ad ao).bind fun bM => (if bM = true then (laws_FnExactWalkPath.j1 ay ao ax ad (a8 != ax) Y Z ah ai aj ak) else (laws_FnExactWalkPath.j1 ay ao ax ad true Y Z ah ai aj ak))))) = some r := by rw [if_pos rfl] at H; exact H
      replace H := Option.bind_eq_some_iff.mp H
      obtain ⟨⟨bV, aS, bc⟩, dy, H⟩ := H
      try dsimp -simprocs only at H
      have eB := am dy
      clear dy
      have cA := am H
      clear H
      try go_wp2
      replace M := rd_ M
      replace I := rd_ I
      replace L := rd_ L
      replace J := rd_ J
      replace s := bd s
      replace y := bd y
      replace z := bd z
      replace D := bd D
      replace HB := hd HB
      refine sta 5 (fun w' => w'.cell? ⟨an, 0, none⟩ = some (.slice T O.length X) ∧ w'.cell? ⟨an, 1, none⟩ = some (.slice ar ac.length au) ∧ w'.cell? ⟨aN, 0, none⟩ = some (.slice az Y.length aA) ∧ w'.cell? ⟨aN, 1, none⟩ = some (.slice aB Z.length aC)) [] ⟨cx D 0, cx D 1, cx s 0, cx s 1⟩ (fun hHeld => ?_)
      generalize wc.drew = w64 at M I L J s y z D HB hHeld ⊢
      refine tk 0 53 ?_
      refine tk 1 54 ?_
      refine on 2 55 (fun K hK => ?_)
      refine gs Try.func18 #[.agg #[.slice az Y.length aA, .slice aB Z.length aC]] ?_
      with_reducible refine (laws_toGraph.calls ay _ _ Y _ _ Z bN cz _ ?aa ?ab ?af ?al ez.out).mono ?_
      (case aa => exact Kd.C_below bm.out (bs HB.out))
      (case ab => exact bn.out)
      (case af => exact Kd.C_below bo.out (bs HB.out))
      (case al => exact br.out)
      rintro e fW ⟨fX, fY, rfl, ae, aI, hb⟩
      refine ⟨_, rfl, ?_⟩
      have a6 := am (Kd.R_lower (Kd.R_new' (Kd.R_new' (Kd.R_new' ae (rk M)) (rk I)) (rk L)) (below_size (bs HB.out)))
      replace M := re M ae hb
      replace I := re I ae hb
      replace L := re L ae hb
      have a7 := am (Kd.R_lower (Kd.R_new' aI (rk J)) (below_size (bs HB.out)))
      replace J := re J aI hb
      replace s := bb s hb rfl
      replace y := bb y hb rfl
      replace z := bb z hb rfl
      replace D := bb D hb rfl
      replace HB := hs HB hb
      (try clear hb)
      (try clear hb2)
      (try clear hk)
      (try clear hi)
      (try clear ae)
      (try clear aI)
      obtain ⟨cB, cC, dz⟩ := Kd.R_slice a6.out
      (first | subst dz | (injection dz with aD aX aE; have aY := aD.symm; have aZ := aE.symm; clear aD aX aE; subst aY; subst aZ))
      obtain ⟨eC, eD, dA⟩ := Kd.R_slice a7.out
      (first | subst dA | (injection dA with aD aX aE; have aY := aD.symm; have aZ := aE.symm; clear aD aX aE; subst aY; subst aZ))
      refine hK.out _ _ ⟨cx D 0, cx D 1, cx s 0, cx s 1⟩ (fun hHeld => ?_)
      clear hK K
      refine nrm 55 ?_
      refine on 3 56 (fun K hK => ?_)
      refine gs Try.func22 #[.agg #[.slice T O.length X, .slice ar ac.length au], .agg #[.slice cB bN.length cC, .slice eC cz.length eD]] ?_
      with_reducible refine (laws_eqGraph.calls ay _ _ O _ _ ac _ _ bN _ _ cz true _ ?aa ?ab ?af ?al ?eE ?eF ?eG ?eH eA.out).mono ?_
      (case aa => exact cr L)
      (case ab => exact cc L)
      (case af => exact cr J)
      (case al => exact cc J)
      (case eE => exact cr a6)
      (case eF => exact cc a6)
      (case eG => exact cr a7)
      (case eH => exact cc a7)
      rintro e eI ⟨rfl, hb⟩
      refine ⟨_, rfl, ?_⟩
      replace M := rb M hb
      replace I := rb I hb
      replace L := rb L hb
      replace J := rb J hb
      replace a6 := rb a6 hb
      replace a7 := rb a7 hb
      replace s := bb s hb rfl
      replace y := bb y hb rfl
      replace z := bb z hb rfl
      replace D := bb D hb rfl
      replace HB := hs HB hb
      (try clear hb)
      (try clear hb2)
      (try clear hk)
      (try clear hi)
      refine hK.out _ _ ⟨cx D 0, cx D 1, cx s 0, cx s 1⟩ (fun hHeld => ?_)
      clear hK K
      refine nrm 56 ?_
      refine pu 4 57 ?_
      refine dn ?_
      have fZ := da.out
      have f0 := c9.out
      have f1 := dc.out
      have f2 := db.out
      have f4 := de.out
      have f5 := dd.out
      obtain ⟨dB, dC⟩ := bc2 (w := eI) D.out
      have dD := blk_frozen D.out
      go_upto_region 14 with (first | ((with_reducible refine gc 23 rfl ?_); refine gl 60 Try.func23 #[.agg #[.slice T O.length X, .slice ar ac.length au], .int .i64 1] ?_; (with_reducible refine (laws_markGraph.calls ay (fun k_ => some k_ = (.slice T O.length X : Value).ownBlock) (.slice T O.length X) O (fun k_ => some k_ = (.slice ar ac.length au : Value).ownBlock) (.slice ar ac.length au) ac 1 bV aS bc w _ ?aa ?ab ?af eB.out).mono ?_); (case aa => exact bs HB.out); (case ab => exact Kd.R_tight rfl L.out); (case af => exact Kd.R_tight rfl J.out); rintro e f6 ⟨rfl, bO, dE, hb, hkp⟩; refine ⟨_, rfl, ?_⟩; replace M := am (Kd.R_mono (ok' := fun k_ => some k_ ≠ (ba : Value).ownBlock ∧ some k_ ≠ (.slice T O.length X : Value).ownBlock ∧ some k_ ≠ (.slice cB bN.length cC : Value).ownBlock) (Kd.R_keptB ((Kd.R_apart' M.out (Kd.R_typed J.out) (by decide))) hkp (fun k_ hk_ hs_ => Or.elim hs_ (fun e_ => by first | exact hk_.1.1.2 e_ | exact hk_.1.1 e_) (fun e_ => (hk_.2) e_))) (fun k_ hk_ => ⟨hk_.1.1.1.1, hk_.1.1.1.2, hk_.1.1.2⟩)); replace I := am (Kd.R_mono (ok' := fun k_ => some k_ ≠ (aG : Value).ownBlock ∧ some k_ ≠ (.slice T O.length X : Value).ownBlock ∧ some k_ ≠ (.slice cB bN.length cC : Value).ownBlock) (Kd.R_keptB ((Kd.R_apart' I.out (Kd.R_typed J.out) (by decide))) hkp (fun k_ hk_ hs_ => Or.elim hs_ (fun e_ => by first | exact hk_.1.1.2 e_ | exact hk_.1.1 e_) (fun e_ => (hk_.2) e_))) (fun k_ hk_ => ⟨hk_.1.1.1.1, hk_.1.1.1.2, hk_.1.1.2⟩)); replace s := am (blk_kept (bf s.out) hkp (fun hs_ => Or.elim hs_ (fun e_ => (fun e_ => (Kd.R_ne L.out s.out (by decide)) e_) e_) (fun e_ => (fun e_ => (Kd.R_ne J.out s.out (by decide)) e_) e_))); replace y := am (blk_kept (bf y.out) hkp (fun hs_ => Or.elim hs_ (fun e_ => (fun e_ => (Kd.R_ne L.out y.out (by decide)) e_) e_) (fun e_ => (fun e_ => (Kd.R_ne J.out y.out (by decide)) e_) e_))); replace z := am (blk_kept (bf z.out) hkp (fun hs_ => Or.elim hs_ (fun e_ => (fun e_ => (Kd.R_ne L.out z.out (by decide)) e_) e_) (fun e_ => (fun e_ => (Kd.R_ne J.out z.out (by decide)) e_) e_))); replace D := am (blk_kept (bf D.out) hkp (fun hs_ => Or.elim hs_ (fun e_ => (fun e_ => (Kd.R_ne L.out D.out (by decide)) e_) e_) (fun e_ => (fun e_ => (Kd.R_ne J.out D.out (by decide)) e_) e_))); replace a6 := am (Kd.R_mono (ok' := fun k_ => some k_ ≠ (aG : Value).ownBlock ∧ some k_ ≠ (ba : Value).ownBlock ∧ some k_ ≠ (.slice T O.length X : Value).ownBlock) (Kd.R_keptB ((Kd.R_apart' a6.out (Kd.R_typed J.out) (by decide))) hkp (fun k_ hk_ hs_ => Or.elim hs_ (fun e_ => (hk_.1.2) e_) (fun e_ => (hk_.2) e_))) (fun k_ hk_ => ⟨hk_.1.1.1.1.2, hk_.1.1.1.2, hk_.1.1.2⟩)); replace J := am (Kd.R_reok rfl dE (fun k_ e_ => J.out.1 k_ e_)); replace a7 := am (Kd.R_mono (ok' := fun k_ => some k_ ≠ (.slice ar ac.length au : Value).ownBlock) (Kd.R_keptB ((Kd.R_apart' a7.out (Kd.R_typed L.out) (by decide))) hkp (fun k_ hk_ hs_ => Or.elim hs_ (fun e_ => (hk_.2) e_) (fun e_ => (hk_.1.2) e_))) (fun k_ hk_ => by first | exact hk_.1.1.2 | exact hk_.1.1)); replace L := am (Kd.R_reok rfl bO (fun k_ e_ => L.out.1 k_ e_)); replace HB := am hb; (try clear hb hkp); (try clear bO); (try clear dE)))
      (try simp only [Act.put, List.setIfInBounds_toArray, List.set_cons_zero, List.set_cons_succ])
      go_cut [73] (fun eJ wc => ∃ (kq : Nat) (bW : Bool), eJ = .bool bW ∧ Aside0 (laws_FnExactWalkPath.j1 kq ao ax ad bW Y Z ah ai aj ak = some r) ∧ Aside0 (kq ≤ ay) ∧ Aside0 (Kd.R k36 36 wc w.heap.size (fun k_ => some k_ ≠ (ba : Value).ownBlock ∧ some k_ ≠ ((.slice T O.length X) : Value).ownBlock) aG ao) ∧ Aside0 (Kd.R k36 36 wc w.heap.size (fun k_ => some k_ ≠ (aG : Value).ownBlock ∧ some k_ ≠ ((.slice T O.length X) : Value).ownBlock) ba ad) ∧ Aside0 (Kd.R k36 36 wc w.heap.size (fun k_ => some k_ ≠ (aG : Value).ownBlock ∧ some k_ ≠ (ba : Value).ownBlock) (.slice T O.length X) aS) ∧ Aside0 (Kd.R k56 56 wc w.heap.size (fun _ => True) (.slice ar ac.length au) bc) ∧ Aside0 (wc.heap[aN]? = some (.cells #[(.slice az Y.length aA), (.slice aB Z.length aC)] 25 (0, 0))) ∧ Aside0 (wc.heap[aO]? = some (.cells #[.int .i64 ah, .int .i64 ai] 27 (0, 0))) ∧ Aside0 (wc.heap[aP]? = some (.cells #[.int .i64 aj, .int .i64 ak] 27 (0, 0))) ∧ Aside0 (wc.heap[an]? = some (.cells #[(.slice T O.length X), (.slice ar ac.length au)] 34 (0, 0))) ∧ Aside0 (Below w.heap.size w wc))
      case first =>
       have H := cA.out
       clear cA
       by_cases be : bV < 0
       ·rw [if_pos be] at H
        have bj : decide (bV < 0) = true := decide_eq_true be
        clear be
        (first | rw [bj] | (simp only [i64_w, i32_w]; rw [bj]) | skip)
        have H' := am H
        clear H
        go_wp2
        go_meet
        case rel => exact ⟨_, (true), eqs, H', ⟨by have := bL.out; first | omega | exact Nat.le_refl _⟩, ⟨by (with_reducible repeat (first | apply Kd.R_alloc | apply Kd.R_drewN | apply Kd.R_drew)); exact Kd.R_mono M.out (fun _ hk => ⟨hk.1, hk.2.1⟩)⟩, ⟨by (with_reducible repeat (first | apply Kd.R_alloc | apply Kd.R_drewN | apply Kd.R_drew)); exact Kd.R_mono I.out (fun _ hk => ⟨hk.1, hk.2.1⟩)⟩, ⟨by (with_reducible repeat (first | apply Kd.R_alloc | apply Kd.R_drewN | apply Kd.R_drew)); exact Kd.R_mono L.out (fun _ hk => ⟨hk.1.1, hk.1.2⟩)⟩, ⟨by (with_reducible repeat (first | apply Kd.R_alloc | apply Kd.R_drewN | apply Kd.R_drew)); exact Kd.R_mono J.out (fun _ hk => trivial)⟩, ⟨bf s.out⟩, ⟨bf y.out⟩, ⟨bf z.out⟩, ⟨bf D.out⟩, ⟨bs HB.out⟩⟩
       ·rw [if_neg be] at H
        have bj : decide (bV < 0) = false := decide_eq_false be
        clear be
        (first | rw [bj] | (simp only [i64_w, i32_w]; rw [bj]) | skip)
        replace H := Option.bind_eq_some_iff.mp H
        obtain ⟨bM, dF, H⟩ := H
        try dsimp -simprocs only at H
        have dG := am dF
        clear dF
        by_cases bH : bM = true
        ·subst bH
         replace H : (laws_FnExactWalkPath.j1 ay ao ax ad (a8 != ax) Y Z ah ai aj ak) = some r := by rw [if_pos rfl] at H; exact H
         have H' := am H
         clear H
         obtain ⟨f7, f8, eK⟩ := Kd.R_slice I.out
         subst eK
         obtain ⟨f9, ga, eL⟩ := Kd.R_slice M.out
         subst eL
         go_wp2_with (first | (go_at_call 21; (with_reducible refine (laws_eqNodeS.calls ay _ _ ad _ _ ao true _ ?aa ?ab ?af ?al dG.out).mono ?_); (case aa => exact cr I); (case ab => exact cc I); (case af => exact cr M); (case al => exact cc M); rintro e gb ⟨rfl, hb⟩; replace M := rb M hb; replace I := rb I hb; replace L := rb L hb; replace J := rb J hb; replace a6 := rb a6 hb; replace a7 := rb a7 hb; replace s := bb s hb rfl; replace y := bb y hb rfl; replace z := bb z hb rfl; replace D := bb D hb rfl; replace HB := hs HB hb; (try clear hb)))
         go_meet
         case rel => exact ⟨_, ((a8 != ax)), eqs, H', ⟨by have := bL.out; first | omega | exact Nat.le_refl _⟩, ⟨by (with_reducible repeat (first | apply Kd.R_alloc | apply Kd.R_drewN | apply Kd.R_drew)); exact Kd.R_mono M.out (fun _ hk => ⟨hk.1, hk.2.1⟩)⟩, ⟨by (with_reducible repeat (first | apply Kd.R_alloc | apply Kd.R_drewN | apply Kd.R_drew)); exact Kd.R_mono I.out (fun _ hk => ⟨hk.1, hk.2.1⟩)⟩, ⟨by (with_reducible repeat (first | apply Kd.R_alloc | apply Kd.R_drewN | apply Kd.R_drew)); exact Kd.R_mono L.out (fun _ hk => ⟨hk.1.1, hk.1.2⟩)⟩, ⟨by (with_reducible repeat (first | apply Kd.R_alloc | apply Kd.R_drewN | apply Kd.R_drew)); exact Kd.R_mono J.out (fun _ hk => trivial)⟩, ⟨bf s.out⟩, ⟨bf y.out⟩, ⟨bf z.out⟩, ⟨bf D.out⟩, ⟨bs HB.out⟩⟩
        ·replace bH := Bool.eq_false_iff.mpr bH
         subst bH
         have H1 : (laws_FnExactWalkPath.j1 ay ao ax ad true Y Z ah ai aj ak) = some r := by rw [if_neg (show ¬ (false = true) by decide)] at H; exact H
         clear H
         have H := H1
         clear H1
         have H' := am H
         clear H
         obtain ⟨ge, gf, eM⟩ := Kd.R_slice I.out
         subst eM
         obtain ⟨gg, gh, eN⟩ := Kd.R_slice M.out
         subst eN
         go_wp2_with (first | (go_at_call 21; (with_reducible refine (laws_eqNodeS.calls ay _ _ ad _ _ ao false _ ?aa ?ab ?af ?al dG.out).mono ?_); (case aa => exact cr I); (case ab => exact cc I); (case af => exact cr M); (case al => exact cc M); rintro e gi ⟨rfl, hb⟩; replace M := rb M hb; replace I := rb I hb; replace L := rb L hb; replace J := rb J hb; replace a6 := rb a6 hb; replace a7 := rb a7 hb; replace s := bb s hb rfl; replace y := bb y hb rfl; replace z := bb z hb rfl; replace D := bb D hb rfl; replace HB := hs HB hb; (try clear hb)))
         go_meet
         case rel => exact ⟨_, (true), eqs, H', ⟨by have := bL.out; first | omega | exact Nat.le_refl _⟩, ⟨by (with_reducible repeat (first | apply Kd.R_alloc | apply Kd.R_drewN | apply Kd.R_drew)); exact Kd.R_mono M.out (fun _ hk => ⟨hk.1, hk.2.1⟩)⟩, ⟨by (with_reducible repeat (first | apply Kd.R_alloc | apply Kd.R_drewN | apply Kd.R_drew)); exact Kd.R_mono I.out (fun _ hk => ⟨hk.1, hk.2.1⟩)⟩, ⟨by (with_reducible repeat (first | apply Kd.R_alloc | apply Kd.R_drewN | apply Kd.R_drew)); exact Kd.R_mono L.out (fun _ hk => ⟨hk.1.1, hk.1.2⟩)⟩, ⟨by (with_reducible repeat (first | apply Kd.R_alloc | apply Kd.R_drewN | apply Kd.R_drew)); exact Kd.R_mono J.out (fun _ hk => trivial)⟩, ⟨bf s.out⟩, ⟨bf y.out⟩, ⟨bf z.out⟩, ⟨bf D.out⟩, ⟨bs HB.out⟩⟩
      case rest =>
       clear cA
       try clear c1
       try clear c2
       try clear p2
       try clear c3
       try clear c4
       try clear c5
       try clear c6
       try clear c7
       try clear dh
       try clear di
       try clear dj
       try clear dk
       try clear dl
       try clear dm
       try clear eO
       try clear eP
       try clear dp
       try clear dq
       try clear dr
       try clear dt
       try clear du
       try clear bi
       try clear bF
       try clear bG
       try clear eQ
       try clear eR
       try clear eS
       try clear be
       try clear bj
       try clear bH
       try clear cg ch
       try clear cl cm
       try clear co cp
       try clear dB dC
       try clear ci
       try clear cn
       try clear ct
       try clear dD
       try clear p2
       obtain ⟨kq, bW, rfl, HA, dH, M, I, L, J, s, y, z, D, HB⟩ := hcut
       have hl444000_62 := (Kd.R_reads' L.out).1
       rw [hl444000_62] at L
       (try simp only [hl444000_62])
       (try simp only [hl444000_62] at s)
       (try simp only [hl444000_62] at y)
       (try simp only [hl444000_62] at z)
       (try simp only [hl444000_62] at D)
       (try simp only [hl444000_62] at M)
       (try simp only [hl444000_62] at I)
       (try simp only [hl444000_62] at J)
       have hl444001_62 := (Kd.R_reads' J.out).1
       rw [hl444001_62] at J
       (try simp only [hl444001_62])
       (try simp only [hl444001_62] at s)
       (try simp only [hl444001_62] at y)
       (try simp only [hl444001_62] at z)
       (try simp only [hl444001_62] at D)
       (try simp only [hl444001_62] at M)
       (try simp only [hl444001_62] at I)
       (try simp only [hl444001_62] at L)
       cases kq with
       | zero => exact absurd HA.out (by simp [laws_FnExactWalkPath.j1])
       | succ aF =>
        have H := HA.out
        clear HA
        simp only [laws_FnExactWalkPath.j1] at H
        by_cases bP : bW = true
        ·subst bP
         replace H : (some false) = some r := by rw [if_pos rfl] at H; exact H
         exact absurd (Option.some.inj H) (by rw [hT.out]; decide)
        ·replace bP := Bool.eq_false_iff.mpr bP
         subst bP
         have H1 : ((laws_markNodeS.f aF ad 1).bind fun bI => ((laws_heldNodeS.f aF bI.2 1).bind fun aT => (if aT < 0 then (some false) else (if aT = bI.1 then ((laws_toGraph.f aF Y Z).bind fun dI => ((laws_toNode.f ah ai).bind fun dJ => ((laws_toNode.f aj ak).bind fun dK => ((impl_WalkPath.f aF dI.1 dI.2 dJ.1 dJ.2 dK.1 dK.2).bind fun dL => ((laws_eqNodeS.f aF dL.1 ao).bind fun cD => (if cD = true then (laws_FnExactWalkPath.j2 aF bI.2 bI.1 (dL.2 != ax)) else (laws_FnExactWalkPath.j2 aF bI.2 bI.1 true))))))) else (some false))))) = some r := by rw [if_neg (show ¬ (false = true) by decide)] at H; exact H
         clear H
         have H := H1
         clear H1
         replace H := Option.bind_eq_some_iff.mp H
         obtain ⟨⟨aH, aK⟩, dM, H⟩ := H
         try dsimp -simprocs only at H
         have eT := am dM
         clear dM
         replace H := Option.bind_eq_some_iff.mp H
         obtain ⟨aT, dN, H⟩ := H
         try dsimp -simprocs only at H
         have eU := am dN
         clear dN
         by_cases bk : aT < 0
         ·rw [if_pos bk] at H
          have dO : decide (aT < 0) = true := decide_eq_true bk
          clear bk
          exact absurd (Option.some.inj H) (by rw [hT.out]; decide)
         ·rw [if_neg bk] at H
          have dO : decide (aT < 0) = false := decide_eq_false bk
          clear bk
          by_cases bg : aT = aH
          ·rw [if_pos bg] at H
           have dP : (aT == aH) = true := beq_iff_eq.mpr bg
           have dQ : (aT != aH) = false := bne_eq_false_iff_eq.mpr bg
           clear bg
           replace H := Option.bind_eq_some_iff.mp H
           obtain ⟨⟨cE, cF⟩, dR, H⟩ := H
           try dsimp -simprocs only at H
           have eV := am dR
           clear dR
           replace H := Option.bind_eq_some_iff.mp H
           obtain ⟨⟨cG, cH⟩, dS, H⟩ := H
           try dsimp -simprocs only at H
           have eW := am dS
           clear dS
           replace H := Option.bind_eq_some_iff.mp H
           obtain ⟨⟨cI, cJ⟩, dT, H⟩ := H
           try dsimp -simprocs only at H
           have eX := am dT
           clear dT
           replace H := Option.bind_eq_some_iff.mp H
           obtain ⟨⟨bQ, cK⟩, dU, H⟩ := H
           try dsimp -simprocs only at H
           have eY := am dU
           clear dU
           have cL := am H
           clear H
           obtain ⟨aU, aV, eZ⟩ := Kd.R_slice I.out
           subst eZ
           try go_wp2_with (first | ((with_reducible refine gc 24 rfl ?_); refine gl 76 Try.func24 #[.slice aU ad.length aV, .int .i64 1] ?_; (with_reducible refine (laws_markNodeS.calls aF (fun k_ => some k_ = (.slice aU ad.length aV : Value).ownBlock) (.slice aU ad.length aV) ad 1 aH aK w _ ?aa ?ab eT.out).mono ?_); (case aa => exact bs HB.out); (case ab => exact Kd.R_tight rfl I.out); rintro e aL ⟨rfl, bO, hb, hkp⟩; refine ⟨_, rfl, ?_⟩; replace M := am (Kd.R_mono (ok' := fun k_ => some k_ ≠ (.slice aU ad.length aV : Value).ownBlock ∧ some k_ ≠ (.slice T aS.length X : Value).ownBlock) (Kd.R_keptB (M.out) hkp (fun k_ hk_ hs_ => (hk_.1) hs_)) (fun k_ hk_ => ⟨hk_.1.1, hk_.1.2⟩)); replace L := am (Kd.R_mono (ok' := fun k_ => some k_ ≠ (aG : Value).ownBlock ∧ some k_ ≠ (.slice aU ad.length aV : Value).ownBlock) (Kd.R_keptB (L.out) hkp (fun k_ hk_ hs_ => (hk_.2) hs_)) (fun k_ hk_ => ⟨hk_.1.1, hk_.1.2⟩)); replace J := am (Kd.R_mono (ok' := fun k_ => True) (Kd.R_keptB ((Kd.R_apart' J.out (Kd.R_typed I.out) (by decide))) hkp (fun k_ hk_ hs_ => (hk_.2) hs_)) (fun k_ hk_ => trivial)); replace s := am (blk_kept (bf s.out) hkp (fun hs_ => (fun e_ => (Kd.R_ne I.out s.out (by decide)) e_) hs_)); replace y := am (blk_kept (bf y.out) hkp (fun hs_ => (fun e_ => (Kd.R_ne I.out y.out (by decide)) e_) hs_)); replace z := am (blk_kept (bf z.out) hkp (fun hs_ => (fun e_ => (Kd.R_ne I.out z.out (by decide)) e_) hs_)); replace D := am (blk_kept (bf D.out) hkp (fun hs_ => (fun e_ => (Kd.R_ne I.out D.out (by decide)) e_) hs_)); replace I := am (Kd.R_reok rfl bO (fun k_ e_ => I.out.1 k_ e_)); replace HB := am hb; (try clear hb hkp); (try clear bO)) | ((with_reducible refine gc 25 rfl ?_); refine goesL_ (some 79) rfl rfl Try.func25 (by kernel_rfl) rfl #[.slice aU aK.length aV, .int .i64 1] rfl (by (try simp only [List.map_toArray, List.map_cons, List.map_nil]); first | done | (rw [show aK.length = ad.length from (Kd.R_reads' I.out).1.symm] <;> rfl) | rfl | (simp only [List.length_drop, List.length_take]; rfl)) ?_; (with_reducible refine (laws_heldNodeS.calls aF _ _ aK 1 aT _ ?aa ?ab eU.out).mono ?_); (case aa => exact cr I); (case ab => rw [show aK.length = ad.length from (Kd.R_reads' I.out).1.symm]; exact cc I); rintro e w' ⟨rfl, ⟨nd, rfl⟩⟩; refine ⟨_, rfl, ?_⟩))
           (try (rw [drewN_self aL]; generalize hq_ : World.drewN aL _ = aL; have bu : Aside0 (Kd.R k36 36 aL w.heap.size (fun k_ => some k_ ≠ (.slice T aS.length X : Value).ownBlock ∧ some k_ ≠ (aG : Value).ownBlock) (.slice aU ad.length aV) aK) := ⟨by rw [← hq_]; exact (by (with_reducible repeat (first | apply Kd.R_alloc | apply Kd.R_drewN | apply Kd.R_drew)); exact Kd.R_mono I.out (fun _ hk => ⟨hk.2, hk.1⟩))⟩; have bv : Aside0 (Kd.R k36 36 aL w.heap.size (fun k_ => some k_ ≠ (.slice aU ad.length aV : Value).ownBlock ∧ some k_ ≠ (aG : Value).ownBlock) (.slice T aS.length X) aS) := ⟨by rw [← hq_]; exact (by (with_reducible repeat (first | apply Kd.R_alloc | apply Kd.R_drewN | apply Kd.R_drew)); exact Kd.R_mono L.out (fun _ hk => ⟨hk.2, hk.1⟩))⟩; have bw : Aside0 (Kd.R k56 56 aL w.heap.size (fun _ => True) (.slice ar bc.length au) bc) := ⟨by rw [← hq_]; exact (rl J.out)⟩; have bz : Aside0 (Kd.R k36 36 aL w.heap.size (fun k_ => some k_ ≠ (.slice aU ad.length aV : Value).ownBlock ∧ some k_ ≠ (.slice T aS.length X : Value).ownBlock) aG ao) := ⟨by rw [← hq_]; exact (rl M.out)⟩; have bA : Aside0 (aL.heap[aN]? = some (.cells #[.slice az Y.length aA, .slice aB Z.length aC] 25 (0, 0))) := ⟨by rw [← hq_]; exact (bf s.out)⟩; have bB : Aside0 (aL.heap[aO]? = some (.cells #[.int .i64 ah, .int .i64 ai] 27 (0, 0))) := ⟨by rw [← hq_]; exact (bf y.out)⟩; have bC : Aside0 (aL.heap[aP]? = some (.cells #[.int .i64 aj, .int .i64 ak] 27 (0, 0))) := ⟨by rw [← hq_]; exact (bf z.out)⟩; have bD : Aside0 (aL.heap[an]? = some (.cells #[.slice T aS.length X, .slice ar bc.length au] 34 (0, 0))) := ⟨by rw [← hq_]; exact (bf D.out)⟩; have bE : Aside0 (Below w.heap.size w aL) := ⟨by rw [← hq_]; exact (bs HB.out)⟩; clear I L J M s y z D HB hq_; have I := bu; have L := bv; have J := bw; have M := bz; have s := bA; have y := bB; have z := bC; have D := bD; have HB := bE; clear bu bv bw bz bA bB bC bD bE))
           replace M := rd_ M
           replace I := rd_ I
           replace L := rd_ L
           replace J := rd_ J
           replace s := bd s
           replace y := bd y
           replace z := bd z
           replace D := bd D
           replace HB := hd HB
           refine sta 12 (fun w' => w'.cell? ⟨aN, 0, none⟩ = some (.slice az Y.length aA) ∧ w'.cell? ⟨aN, 1, none⟩ = some (.slice aB Z.length aC) ∧ w'.cell? ⟨aO, 0, none⟩ = some (.int .i64 ah) ∧ w'.cell? ⟨aO, 1, none⟩ = some (.int .i64 ai) ∧ w'.cell? ⟨aP, 0, none⟩ = some (.int .i64 aj) ∧ w'.cell? ⟨aP, 1, none⟩ = some (.int .i64 ak)) [] ⟨cx s 0, cx s 1, cx y 0, cx y 1, cx z 0, cx z 1⟩ (fun hHeld => ?_); refine with_tabW laws_FnExactWalkPath.tab24 laws_FnExactWalkPath.bits24 (fun HT_ HW_ => ?_)
           generalize aL.drew = gj at M I L J s y z D HB hHeld ⊢
           refine tk 0 86 ?_
           refine tk 2 88 ?_
           refine tk 4 90 ?_
           refine on 1 87 (fun K hK => ?_)
           refine gs Try.func18 #[.agg #[.slice az Y.length aA, .slice aB Z.length aC]] ?_
           with_reducible refine (laws_toGraph.calls aF _ _ Y _ _ Z cE cF _ ?aa ?ab ?af ?al eV.out).mono ?_
           (case aa => exact Kd.C_below bm.out (bs HB.out))
           (case ab => exact bn.out)
           (case af => exact Kd.C_below bo.out (bs HB.out))
           (case al => exact br.out)
           rintro e gk ⟨gm, gn, rfl, ae, aI, hb⟩
           refine ⟨_, rfl, ?_⟩
           have aJ := am (Kd.R_lower (Kd.R_new' (Kd.R_new' (Kd.R_new' ae (rk M)) (rk I)) (rk L)) (below_size (bs HB.out)))
           replace M := re M ae hb
           replace I := re I ae hb
           replace L := re L ae hb
           have aM := am (Kd.R_lower (Kd.R_new' aI (rk J)) (below_size (bs HB.out)))
           replace J := re J aI hb
           replace s := bb s hb rfl
           replace y := bb y hb rfl
           replace z := bb z hb rfl
           replace D := bb D hb rfl
           replace HB := hs HB hb
           (try clear hb)
           (try clear hb2)
           (try clear hk)
           (try clear hi)
           (try clear ae)
           (try clear aI)
           refine hK.out _ _ ⟨cx s 0, cx s 1, cx y 0, cx y 1, cx z 0, cx z 1⟩ (fun hHeld => ?_)
           clear hK K
           refine nrm 87 ?_
           refine on 3 89 (fun K hK => ?_)
           refine gs Try.func19 #[.agg #[.int .i64 ah, .int .i64 ai]] ?_
           with_reducible refine (laws_toNode.calls ah ai cG cH _ eW.out).mono ?_
           rintro e go ⟨rfl, hb⟩
           refine ⟨_, rfl, ?_⟩
           replace M := rb M hb
           replace I := rb I hb
           replace L := rb L hb
           replace J := rb J hb
           replace aJ := rb aJ hb
           replace aM := rb aM hb
           replace s := bb s hb rfl
           replace y := bb y hb rfl
           replace z := bb z hb rfl
           replace D := bb D hb rfl
           replace HB := hs HB hb
           (try clear hb)
           (try clear hb2)
           (try clear hk)
           (try clear hi)
           refine hK.out _ _ ⟨cx s 0, cx s 1, cx y 0, cx y 1, cx z 0, cx z 1⟩ (fun hHeld => ?_)
           clear hK K
           refine nrm 89 ?_
           refine on 5 91 (fun K hK => ?_)
           refine gs Try.func19 #[.agg #[.int .i64 aj, .int .i64 ak]] ?_
           with_reducible refine (laws_toNode.calls aj ak cI cJ _ eX.out).mono ?_
           rintro e gp ⟨rfl, hb⟩
           refine ⟨_, rfl, ?_⟩
           replace M := rb M hb
           replace I := rb I hb
           replace L := rb L hb
           replace J := rb J hb
           replace aJ := rb aJ hb
           replace aM := rb aM hb
           replace s := bb s hb rfl
           replace y := bb y hb rfl
           replace z := bb z hb rfl
           replace D := bb D hb rfl
           replace HB := hs HB hb
           (try clear hb)
           (try clear hb2)
           (try clear hk)
           (try clear hi)
           obtain ⟨e0, e1, dV⟩ := Kd.R_slice aJ.out
           (first | subst dV | (injection dV with aD aX aE; have aY := aD.symm; have aZ := aE.symm; clear aD aX aE; subst aY; subst aZ))
           obtain ⟨e2, e3, dW⟩ := Kd.R_slice aM.out
           (first | subst dW | (injection dW with aD aX aE; have aY := aD.symm; have aZ := aE.symm; clear aD aX aE; subst aY; subst aZ))
           refine hK.out _ _ ⟨cx s 0, cx s 1, cx y 0, cx y 1, cx z 0, cx z 1⟩ (fun hHeld => ?_)
           clear hK K
           refine nrm 91 ?_
           refine on 6 92 (fun K hK => ?_)
           refine gs Try.func20 #[.agg #[.slice e0 cE.length e1, .slice e2 cF.length e3], .agg #[.int .i64 cG, .int .i64 cH], .agg #[.int .i64 cI, .int .i64 cJ]] ?_
           with_reducible refine (impl_WalkPath.calls aF _ _ cE _ _ cF cG cH cI cJ bQ cK _ ?aa ?ab ?af ?al eY.out).mono ?_
           (case aa => exact cr aJ)
           (case ab => exact cc aJ)
           (case af => exact cr aM)
           (case al => exact cc aM)
           rintro e gq ⟨gt, rfl, ae, hb⟩
           refine ⟨_, rfl, ?_⟩
           replace J := rb J hb
           replace aM := rb aM hb
           have a9 := am (Kd.R_lower (Kd.R_new' (Kd.R_new' (Kd.R_new' (Kd.R_new' ae (rk M)) (rk I)) (rk L)) (rk aJ)) (below_size (bs HB.out)))
           replace M := re M ae hb
           replace I := re I ae hb
           replace L := re L ae hb
           replace aJ := re aJ ae hb
           replace s := bb s hb rfl
           replace y := bb y hb rfl
           replace z := bb z hb rfl
           replace D := bb D hb rfl
           replace HB := hs HB hb
           (try clear hb)
           (try clear hb2)
           (try clear hk)
           (try clear hi)
           (try clear ae)
           refine hK.out _ _ ⟨cx s 0, cx s 1, cx y 0, cx y 1, cx z 0, cx z 1⟩ (fun hHeld => ?_)
           clear hK K
           refine nrm 92 ?_
           refine pu 7 85 ?_
           refine pu 8 93 ?_
           refine pu 9 94 ?_
           refine pu 10 16 ?_
           refine pu 11 17 ?_
           refine dn ?_
           go_upto_region 25 with (fail)
           go_cut [103] (fun e4 wc => ∃ (kq : Nat) (bX : Bool), e4 = .bool bX ∧ Aside0 (laws_FnExactWalkPath.j2 kq aK aH bX = some r) ∧ Aside0 (kq ≤ aF) ∧ Aside0 (Kd.R k36 36 wc w.heap.size (fun k_ => some k_ ≠ ((.slice T aS.length X) : Value).ownBlock) (.slice aU ad.length aV) aK) ∧ Aside0 (Kd.R k36 36 wc w.heap.size (fun k_ => some k_ ≠ ((.slice aU ad.length aV) : Value).ownBlock) (.slice T aS.length X) aS) ∧ Aside0 (Kd.R k56 56 wc w.heap.size (fun _ => True) (.slice ar bc.length au) bc) ∧ Aside0 (wc.heap[aN]? = some (.cells #[(.slice az Y.length aA), (.slice aB Z.length aC)] 25 (0, 0))) ∧ Aside0 (wc.heap[aO]? = some (.cells #[.int .i64 ah, .int .i64 ai] 27 (0, 0))) ∧ Aside0 (wc.heap[aP]? = some (.cells #[.int .i64 aj, .int .i64 ak] 27 (0, 0))) ∧ Aside0 (wc.heap[an]? = some (.cells #[(.slice T aS.length X), (.slice ar bc.length au)] 34 (0, 0))) ∧ Aside0 (Below w.heap.size w wc))
           case first =>
            have H := cL.out
            clear cL
            replace H := Option.bind_eq_some_iff.mp H
            obtain ⟨cD, dX, H⟩ := H
            try dsimp -simprocs only at H
            have dY := am dX
            clear dX
            by_cases bR : cD = true
            ·subst bR
             replace H : (laws_FnExactWalkPath.j2 aF aK aH (cK != ax)) = some r := by rw [if_pos rfl] at H; exact H
             have H' := am H
             clear H
             obtain ⟨e5, e6, e7⟩ := Kd.R_slice a9.out
             subst e7
             obtain ⟨e8, e9, fa⟩ := Kd.R_slice M.out
             subst fa
             go_wp2_with (first | ((with_reducible refine gc 21 rfl ?_); refine gl 97 Try.func21 #[.slice e5 bQ.length e6, .slice e8 ao.length e9] ?_; (with_reducible refine (laws_eqNodeS.calls aF _ _ bQ _ _ ao true _ ?aa ?ab ?af ?al dY.out).mono ?_); (case aa => exact cr a9); (case ab => exact cc a9); (case af => exact cr M); (case al => exact cc M); rintro e gu ⟨rfl, hb⟩; refine ⟨_, rfl, ?_⟩; replace M := rb M hb; replace I := rb I hb; replace L := rb L hb; replace J := rb J hb; replace aJ := rb aJ hb; replace aM := rb aM hb; replace a9 := rb a9 hb; replace s := bb s hb rfl; replace y := bb y hb rfl; replace z := bb z hb rfl; replace D := bb D hb rfl; replace HB := hs HB hb; (try clear hb)))
             go_meet
             case rel => exact ⟨_, ((cK != ax)), eqs, H', ⟨by have := bL.out; have := dH.out; first | omega | exact Nat.le_refl _⟩, ⟨by (try simp only [hl444000_62]); (try simp only [hl444001_62]); (with_reducible repeat (first | apply Kd.R_alloc | apply Kd.R_drewN | apply Kd.R_drew)); exact Kd.R_mono I.out (fun _ hk => by first | exact hk.1.1.2 | exact hk.1.1.1 | exact hk.1.2 | exact hk.2 | exact hk.1.1.1.2 | exact hk.1.1.1.1)⟩, ⟨by (try simp only [hl444000_62]); (try simp only [hl444001_62]); (with_reducible repeat (first | apply Kd.R_alloc | apply Kd.R_drewN | apply Kd.R_drew)); exact Kd.R_mono L.out (fun _ hk => by first | exact hk.1.1.2 | exact hk.1.1.1 | exact hk.1.2 | exact hk.2 | exact hk.1.1.1.2 | exact hk.1.1.1.1)⟩, ⟨by (try simp only [hl444000_62]); (try simp only [hl444001_62]); (with_reducible repeat (first | apply Kd.R_alloc | apply Kd.R_drewN | apply Kd.R_drew)); exact Kd.R_mono J.out (fun _ hk => trivial)⟩, ⟨by (try simp only [hl444000_62]); (try simp only [hl444001_62]); exact bf s.out⟩, ⟨by (try simp only [hl444000_62]); (try simp only [hl444001_62]); exact bf y.out⟩, ⟨by (try simp only [hl444000_62]); (try simp only [hl444001_62]); exact bf z.out⟩, ⟨by (try simp only [hl444000_62]); (try simp only [hl444001_62]); exact bf D.out⟩, ⟨bs HB.out⟩⟩
            ·replace bR := Bool.eq_false_iff.mpr bR
             subst bR
             have H1 : (laws_FnExactWalkPath.j2 aF aK aH true) = some r := by rw [if_neg (show ¬ (false = true) by decide)] at H; exact H
             clear H
             have H := H1
             clear H1
             have H' := am H
             clear H
             obtain ⟨fb, fc, fd⟩ := Kd.R_slice a9.out
             subst fd
             obtain ⟨fe, ff, fg⟩ := Kd.R_slice M.out
             subst fg
             go_wp2_with (first | ((with_reducible refine gc 21 rfl ?_); refine gl 97 Try.func21 #[.slice fb bQ.length fc, .slice fe ao.length ff] ?_; (with_reducible refine (laws_eqNodeS.calls aF _ _ bQ _ _ ao false _ ?aa ?ab ?af ?al dY.out).mono ?_); (case aa => exact cr a9); (case ab => exact cc a9); (case af => exact cr M); (case al => exact cc M); rintro e gv ⟨rfl, hb⟩; refine ⟨_, rfl, ?_⟩; replace M := rb M hb; replace I := rb I hb; replace L := rb L hb; replace J := rb J hb; replace aJ := rb aJ hb; replace aM := rb aM hb; replace a9 := rb a9 hb; replace s := bb s hb rfl; replace y := bb y hb rfl; replace z := bb z hb rfl; replace D := bb D hb rfl; replace HB := hs HB hb; (try clear hb)))
             go_meet
             case rel => exact ⟨_, (true), eqs, H', ⟨by have := bL.out; have := dH.out; first | omega | exact Nat.le_refl _⟩, ⟨by (try simp only [hl444000_62]); (try simp only [hl444001_62]); (with_reducible repeat (first | apply Kd.R_alloc | apply Kd.R_drewN | apply Kd.R_drew)); exact Kd.R_mono I.out (fun _ hk => by first | exact hk.1.1.2 | exact hk.1.1.1 | exact hk.1.2 | exact hk.2 | exact hk.1.1.1.2 | exact hk.1.1.1.1)⟩, ⟨by (try simp only [hl444000_62]); (try simp only [hl444001_62]); (with_reducible repeat (first | apply Kd.R_alloc | apply Kd.R_drewN | apply Kd.R_drew)); exact Kd.R_mono L.out (fun _ hk => by first | exact hk.1.1.2 | exact hk.1.1.1 | exact hk.1.2 | exact hk.2 | exact hk.1.1.1.2 | exact hk.1.1.1.1)⟩, ⟨by (try simp only [hl444000_62]); (try simp only [hl444001_62]); (with_reducible repeat (first | apply Kd.R_alloc | apply Kd.R_drewN | apply Kd.R_drew)); exact Kd.R_mono J.out (fun _ hk => trivial)⟩, ⟨by (try simp only [hl444000_62]); (try simp only [hl444001_62]); exact bf s.out⟩, ⟨by (try simp only [hl444000_62]); (try simp only [hl444001_62]); exact bf y.out⟩, ⟨by (try simp only [hl444000_62]); (try simp only [hl444001_62]); exact bf z.out⟩, ⟨by (try simp only [hl444000_62]); (try simp only [hl444001_62]); exact bf D.out⟩, ⟨bs HB.out⟩⟩
           case rest =>
            clear cL
            try clear c1
            try clear c2
            try clear p2
            try clear c3
            try clear c4
            try clear c5
            try clear c6
            try clear c7
            try clear c8
            try clear gw
            try clear dh
            try clear di
            try clear dj
            try clear dk
            try clear dl
            try clear dm
            try clear eO
            try clear eP
            try clear gx
            try clear dp
            try clear dq
            try clear dr
            try clear dt
            try clear du
            try clear bi
            try clear bF
            try clear bG
            try clear eQ
            try clear eR
            try clear eS
            try clear be
            try clear bj
            try clear bH
            try clear bP
            try clear bk
            try clear dO
            try clear bg
            try clear dP
            try clear dQ
            try clear bR
            try clear cg ch
            try clear cl cm
            try clear co cp
            try clear dB dC
            try clear ci
            try clear cn
            try clear ct
            try clear dD
            try clear p2
            obtain ⟨kq, bX, rfl, HA, gy, I, L, J, s, y, z, D, HB⟩ := hcut
            have hl11_91 := (Kd.R_reads' I.out).1
            rw [hl11_91] at I
            (try simp only [hl11_91])
            (try simp only [hl11_91] at s)
            (try simp only [hl11_91] at y)
            (try simp only [hl11_91] at z)
            (try simp only [hl11_91] at D)
            (try simp only [hl11_91] at L)
            (try simp only [hl11_91] at J)
            cases kq with
            | zero => exact absurd HA.out (by simp [laws_FnExactWalkPath.j2])
            | succ dZ =>
             have H := HA.out
             clear HA
             simp only [laws_FnExactWalkPath.j2] at H
             by_cases bY : bX = true
             ·subst bY
              replace H : (some false) = some r := by rw [if_pos rfl] at H; exact H
              exact absurd (Option.some.inj H) (by rw [hT.out]; decide)
             ·replace bY := Bool.eq_false_iff.mpr bY
              subst bY
              have H1 : ((laws_heldNodeS.f dZ aK 1).bind fun aW => (if aW < 0 then (some false) else (if aW = aH then (some true) else (some false)))) = some r := by rw [if_neg (show ¬ (false = true) by decide)] at H; exact H
              clear H
              have H := H1
              clear H1
              replace H := Option.bind_eq_some_iff.mp H
              obtain ⟨aW, d0, H⟩ := H
              try dsimp -simprocs only at H
              have fh := am d0
              clear d0
              by_cases bJ : aW < 0
              ·rw [if_pos bJ] at H
               have fi : decide (aW < 0) = true := decide_eq_true bJ
               clear bJ
               exact absurd (Option.some.inj H) (by rw [hT.out]; decide)
              ·rw [if_neg bJ] at H
               have fi : decide (aW < 0) = false := decide_eq_false bJ
               clear bJ
               by_cases bl : aW = aH
               ·rw [if_pos bl] at H
                have fj : (aW == aH) = true := beq_iff_eq.mpr bl
                have fk : (aW != aH) = false := bne_eq_false_iff_eq.mpr bl
                clear bl
                obtain rfl := Option.some.inj H
                go_wp2_with (first | ((with_reducible refine gc 25 rfl ?_); refine gl 106 Try.func25 #[.slice aU aK.length aV, .int .i64 1] ?_; (with_reducible refine (laws_heldNodeS.calls dZ _ _ aK 1 aW _ ?aa ?ab fh.out).mono ?_); (case aa => exact cr I); (case ab => exact cc I); rintro e w' ⟨rfl, ⟨nd, rfl⟩⟩; refine ⟨_, rfl, ?_⟩))
                go_ret
                exact ⟨eqr, bs HB.out⟩
               ·rw [if_neg bl] at H
                have fj : (aW == aH) = false := beq_eq_false_iff_ne.mpr bl
                have fk : (aW != aH) = true := bne_iff_ne.mpr bl
                exact absurd (Option.some.inj H) (by rw [hT.out]; decide)
          ·rw [if_neg bg] at H
           have dP : (aT == aH) = false := beq_eq_false_iff_ne.mpr bg
           have dQ : (aT != aH) = true := bne_iff_ne.mpr bg
           exact absurd (Option.some.inj H) (by rw [hT.out]; decide)
     ·replace bG := Bool.eq_false_iff.mpr bG
      subst bG
      have H1 : (some false) = some r := by rw [if_neg (show ¬ (false = true) by decide)] at H; exact H
      clear H
      have H := H1
      clear H1
      exact absurd (Option.some.inj H) (by rw [hT.out]; decide)

end Go.Proofs.Ytohmemckdogljaa.QFnExactWalkPath
