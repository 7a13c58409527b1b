/- Contracts of the Go functions that this law reaches: each does what its plain Lean function says. No condition. -/
import Derived.Test.YtohmemckdogljaaQFnExactGraphDox0
import Derived.Test.YtohmemckdogljaaQFnExactGraphDox3
import Derived.Test.YtohmemckdogljaaQFnExactGraphDox4
import Derived.Test.YtohmemckdogljaaQFnExactGraphDox5
import Derived.Test.YtohmemckdogljaaQFnExactGraphDox13
import Derived.Test.YtohmemckdogljaaQFnExactGraphDox19
namespace Go.Proofs.Ytohmemckdogljaa.QFnExactGraphDo
open Go.RowKit Go.Proofs.YtohmemckdogljaaW.PrintWords Go.Proofs.YtohmemckdogljaaW.PrintLast Go.Proofs.YtohmemckdogljaaW.PrintMore Go.Proofs.Ytohmemckdogljaa.Bl
attribute [local go_sem] max2_int min2_int max_two min_two max_three min_three max_four min_four   -- for this text's walks alone
set_option linter.unusedVariables false
set_option linter.unusedSimpArgs false
set_option maxHeartbeats 8000000
set_option maxRecDepth 100000

/-! ### laws_FnExactGraphDo: function 12 -/
mutual
def laws_FnExactGraphDo.j0 : Nat → Int → Int → Bool → List (S27) → List (S70) → Int → Int → Int → Int → Int → Int → Int → Int → List (S36) → List (S56) → List (S36) → List (S56) → List (S36) → List (S56) → Option (Bool)
 | 0, _, _, _, _, _, _, _, _, _, _, _, _, _, _, _, _, _, _, _ => none
 | k + 1, s, ae, af, y, z, L, M, O, T, X, Y, Z, aa, D, G, ab, ac, I, J => if af = true then (some false) else ((laws_toGraph.f k y z).bind fun ad => ((laws_eqGraph.f k ab ac ad.1 ad.2).bind fun ag => (if ag = true then ((laws_markGraph.f k ab ac 1).bind fun ah => (if ah.1 < 0 then (laws_FnExactGraphDo.j1 k s true y z L M O T X Y Z aa D G I J) else ((laws_eqGraph.f k I J D G).bind fun ai => (if ai = true then (laws_FnExactGraphDo.j1 k s (ae != s) y z L M O T X Y Z aa D G I J) else (laws_FnExactGraphDo.j1 k s true y z L M O T X Y Z aa D G I J))))) else (some false))))
def laws_FnExactGraphDo.j1 : Nat → Int → Bool → List (S27) → List (S70) → Int → Int → Int → Int → Int → Int → Int → Int → List (S36) → List (S56) → List (S36) → List (S56) → Option (Bool)
 | 0, _, _, _, _, _, _, _, _, _, _, _, _, _, _, _, _ => none
 | k + 1, I, J, L, M, O, T, X, Y, Z, aa, ab, ac, ad, ae, af, ag => if J = true then (some false) else ((laws_markGraph.f k af ag 1).bind fun s => ((laws_heldGraph.f k s.2.1 s.2.2 1).bind fun D => (if D < 0 then (some false) else (if D = s.1 then ((laws_toGraph.f k L M).bind fun G => ((laws_toOp.f O T X Y Z aa ab ac).bind fun y => ((impl_GraphDo.f k G.1 G.2 y.1 y.2.1 y.2.2.1 y.2.2.2.1 y.2.2.2.2.1 y.2.2.2.2.2.1 y.2.2.2.2.2.2.1 y.2.2.2.2.2.2.2).bind fun z => ((laws_eqGraph.f k z.1 z.2.1 ad ae).bind fun ah => (if ah = true then (laws_FnExactGraphDo.j2 k s.1 (z.2.2 != I) s.2.1 s.2.2) else (laws_FnExactGraphDo.j2 k s.1 true s.2.1 s.2.2)))))) else (some false)))))
def laws_FnExactGraphDo.j2 : Nat → Int → Bool → List (S36) → List (S56) → Option (Bool)
 | 0, _, _, _, _ => none
 | k + 1, y, z, D, G => if z = true then (some false) else ((laws_heldGraph.f k D G 1).bind fun s => (if s < 0 then (some false) else (if s = y then (some true) else (some false))))
end
def laws_FnExactGraphDo.f (k : Nat) (I : List (S27)) (J : List (S70)) (L : Int) (M : Int) (O : Int) (T : Int) (X : Int) (Y : Int) (Z : Int) (aa : Int) : Option (Bool) := (laws_szGraph.f I J 1048576).bind fun ac => (if ac < 0 then (some true) else ((laws_toGraph.f k I J).bind fun ab => ((laws_toOp.f L M O T X Y Z aa).bind fun z => ((spec_GraphDo.f k ab.1 ab.2 z.1 z.2.1 z.2.2.1 z.2.2.2.1 z.2.2.2.2.1 z.2.2.2.2.2.1 z.2.2.2.2.2.2.1 z.2.2.2.2.2.2.2).bind fun s => ((laws_toGraph.f k I J).bind fun G => ((laws_toOp.f L M O T X Y Z aa).bind fun D => ((impl_GraphDo.f k G.1 G.2 D.1 D.2.1 D.2.2.1 D.2.2.2.1 D.2.2.2.2.1 D.2.2.2.2.2.1 D.2.2.2.2.2.2.1 D.2.2.2.2.2.2.2).bind fun y => ((laws_eqGraph.f k y.1 y.2.1 s.1 s.2.1).bind fun ad => (if ad = true then (laws_FnExactGraphDo.j0 k s.2.2 y.2.2 (y.2.2 != s.2.2) I J L M O T X Y Z aa s.1 s.2.1 G.1 G.2 y.1 y.2.1) else (laws_FnExactGraphDo.j0 k s.2.2 y.2.2 true I J L M O T X Y Z aa s.1 s.2.1 G.1 G.2 y.1 y.2.1))))))))))
def laws_FnExactGraphDo.T5 : Bool × List (List Nat × List Nat) := (true, [([], []), ([0], [0]), ([], []), ([2, 1], [2]), ([1, 3, 3], [1, 3]), ([4], [4]), ([5], [5]), ([5], [5]), ([], []), ([8, 6, 4, 0, 1, 2, 3, 4, 5, 6, 8], [6, 8]), ([7, 9, 0, 1, 2, 3, 4, 5, 6, 7, 8, 9], [7])])
def laws_FnExactGraphDo.B5 : List Nat := [0, 1, 0, 7, 15, 31, 63, 63, 0, 383, 1023]
theorem laws_FnExactGraphDo.tab5 : rtab .any (opsOf Try.f12 5) = laws_FnExactGraphDo.T5 := by kernel_rfl
theorem laws_FnExactGraphDo.bits5 : waitsOk laws_FnExactGraphDo.T5.2 laws_FnExactGraphDo.B5 = true := by kernel_rfl
def laws_FnExactGraphDo.T7 : Bool × List (List Nat × List Nat) := (true, [([], []), ([], []), ([1], [1]), ([0, 2, 2], [0, 2]), ([3], [3]), ([4], [4]), ([4], [4]), ([], []), ([7, 5, 3, 0, 1, 2, 3, 4, 5, 7], [5, 7]), ([6, 8, 0, 1, 2, 3, 4, 5, 6, 7, 8], [6])])
def laws_FnExactGraphDo.B7 : List Nat := [0, 0, 2, 7, 15, 31, 31, 0, 191, 511]
theorem laws_FnExactGraphDo.tab7 : rtab .any (opsOf Try.f12 7) = laws_FnExactGraphDo.T7 := by kernel_rfl
theorem laws_FnExactGraphDo.bits7 : waitsOk laws_FnExactGraphDo.T7.2 laws_FnExactGraphDo.B7 = true := by kernel_rfl
def laws_FnExactGraphDo.T24 : Bool × List (List Nat × List Nat) := (true, [([], []), ([0], [0]), ([], []), ([2, 1], [2]), ([1, 3, 3], [1, 3]), ([4], [4]), ([5], [5]), ([5], [5]), ([], []), ([8, 6, 4, 0, 1, 2, 3, 4, 5, 6, 8], [6, 8]), ([7, 9, 0, 1, 2, 3, 4, 5, 6, 7, 8, 9], [7])])
def laws_FnExactGraphDo.B24 : List Nat := [0, 1, 0, 7, 15, 31, 63, 63, 0, 383, 1023]
theorem laws_FnExactGraphDo.tab24 : rtab .any (opsOf Try.f12 24) = laws_FnExactGraphDo.T24 := by kernel_rfl
theorem laws_FnExactGraphDo.bits24 : waitsOk laws_FnExactGraphDo.T24.2 laws_FnExactGraphDo.B24 = true := by kernel_rfl
theorem laws_FnExactGraphDo.calls (k : Nat) (bg : Option Addr) (bh : Nat) (ar : List (S27)) (bi : Option Addr) (bj : Nat) (au : List (S70)) (aA : Int) (aB : Int) (aC : Int) (aD : Int) (aE : Int) (aF : Int) (aG : Int) (aH : Int) (r : Bool) (hT : Aside0 (r = true)) (w : World) (fa : Kd.C k27 w bg ar.length ar) (fb : ar.length ≤ bh) (fc : Kd.C k70 w bi au.length au) (fd : au.length ≤ bj) (h : laws_FnExactGraphDo.f k ar au aA aB aC aD aE aF aG aH = some r) :
  Calls Try.prog 12 #[.agg #[.slice bg ar.length bh, .slice bi au.length bj], .agg #[.int .i64 aA, .int .i64 aB, .int .i64 aC, .int .i64 aD, .int .i64 aE, .int .i64 aF, .int .i64 aG, .int .i64 aH]] w fun e w' => e = .returned (.bool r) ∧ Below w.heap.size w w' := by
 have hu25 := Try.underlying25
 have hu72 := Try.underlying72
 have hu34 := Try.underlying34
 have dv := am fa
 have dw := am fb
 clear fa fb
 have dx := am fc
 have dy := am fd
 clear fc fd
 have HB := am (Below.refl w.heap.size w)
 have H := h; unfold laws_FnExactGraphDo.f at H
 clear h
 replace H := Option.bind_eq_some_iff.mp H
 obtain ⟨ec, fe, H⟩ := H
 try dsimp -simprocs only at H
 have A3 := am fe
 clear fe
 by_cases c4 : ec < 0
 ·rw [if_pos c4] at H
  have gA : decide (ec < 0) = true := decide_eq_true c4
  clear c4
  obtain rfl := Option.some.inj H
  go_enter Try.func12, Try.ntmps12
  go_wp2_with (first | ((with_reducible refine gd 2 rfl ?_); refine bx 2 (cs := #[.slice bg ar.length bh, .slice bi au.length bj]) (t := 25) ?_; intro be hg w5 hbox hb; have z := am hbox; have gB := gwb HB hg; replace HB := hs HB hb; clear hb hbox hg) | ((with_reducible refine gd 3 rfl ?_); refine bx 3 (cs := #[.int .i64 aA, .int .i64 aB, .int .i64 aC, .int .i64 aD, .int .i64 aE, .int .i64 aF, .int .i64 aG, .int .i64 aH]) (t := 72) ?_; intro J hg w6 hbox hb; have s := am hbox; have gC := gwb HB hg; replace HB := hs HB hb; have eS := nq z hg; have eT := nq' z hg; replace z := bb z hb rfl; clear hb hbox hg; have h8 := eS.out; have h9 := eT.out; obtain ⟨ia, ib⟩ := bc2 (w := w6) z.out; have ic := blk_frozen z.out) | ((with_reducible refine gc 16 rfl ?_); refine gl 18 Try.func16 #[.agg #[.slice bg ar.length bh, .slice bi au.length bj], .int .i64 1048576] ?_; (with_reducible refine (laws_szGraph.calls _ _ ar _ _ au 1048576 ec _ ?av ?aw ?ax ?aL A3.out).mono ?_); (case av => exact Kd.C_below dv.out (bs HB.out)); (case aw => exact dw.out); (case ax => exact Kd.C_below dx.out (bs HB.out)); (case aL => exact dy.out); rintro e w9 ⟨rfl, hb⟩; refine ⟨_, rfl, ?_⟩; replace z := bb z hb rfl; replace s := bb s hb rfl; replace HB := hs HB hb; (try clear hb)))
  go_ret
  exact ⟨eqr, bs HB.out⟩
 ·rw [if_neg c4] at H
  have gA : decide (ec < 0) = false := decide_eq_false c4
  clear c4
  replace H := Option.bind_eq_some_iff.mp H
  obtain ⟨⟨bF, bG⟩, ff, H⟩ := H
  try dsimp -simprocs only at H
  have fg := am ff
  clear ff
  replace H := Option.bind_eq_some_iff.mp H
  obtain ⟨⟨cg, ch, ci, cj, ck, cl, cm, cn⟩, fh, H⟩ := H
  try dsimp -simprocs only at H
  have eU := am fh
  clear fh
  replace H := Option.bind_eq_some_iff.mp H
  obtain ⟨⟨O, T, bt⟩, fi, H⟩ := H
  try dsimp -simprocs only at H
  have eH := am fi
  clear fi
  replace H := Option.bind_eq_some_iff.mp H
  obtain ⟨⟨al, ap⟩, fj, H⟩ := H
  try dsimp -simprocs only at H
  have gD := am fj
  clear fj
  replace H := Option.bind_eq_some_iff.mp H
  obtain ⟨⟨di, dj, dk, dl, dm, dp, dq, dr⟩, fk, H⟩ := H
  try dsimp -simprocs only at H
  have fl := am fk
  clear fk
  replace H := Option.bind_eq_some_iff.mp H
  obtain ⟨⟨aj, ak, bT⟩, fm, H⟩ := H
  try dsimp -simprocs only at H
  have eV := am fm
  clear fm
  have eW := am H
  clear H
  go_enter Try.func12, Try.ntmps12
  try go_wp2_with (first | ((with_reducible refine gd 2 rfl ?_); refine bx 2 (cs := #[.slice bg ar.length bh, .slice bi au.length bj]) (t := 25) ?_; intro be hg ie hbox hb; have z := am hbox; have gB := gwb HB hg; replace HB := hs HB hb; clear hb hbox hg) | ((with_reducible refine gd 3 rfl ?_); refine bx 3 (cs := #[.int .i64 aA, .int .i64 aB, .int .i64 aC, .int .i64 aD, .int .i64 aE, .int .i64 aF, .int .i64 aG, .int .i64 aH]) (t := 72) ?_; intro J hg gE hbox hb; have s := am hbox; have gC := gwb HB hg; replace HB := hs HB hb; have eS := nq z hg; have eT := nq' z hg; replace z := bb z hb rfl; clear hb hbox hg; have ig := eS.out; have ih := eT.out; obtain ⟨ii, ij⟩ := bc2 (w := gE) z.out; have ik := blk_frozen z.out) | ((with_reducible refine gc 16 rfl ?_); refine gl 18 Try.func16 #[.agg #[.slice bg ar.length bh, .slice bi au.length bj], .int .i64 1048576] ?_; (with_reducible refine (laws_szGraph.calls _ _ ar _ _ au 1048576 ec _ ?av ?aw ?ax ?aL A3.out).mono ?_); (case av => exact Kd.C_below dv.out (bs HB.out)); (case aw => exact dw.out); (case ax => exact Kd.C_below dx.out (bs HB.out)); (case aL => exact dy.out); rintro e gF ⟨rfl, hb⟩; refine ⟨_, rfl, ?_⟩; replace z := bb z hb rfl; replace s := bb s hb rfl; replace HB := hs HB hb; (try clear hb)))
  replace z := bd z
  replace s := bd s
  replace HB := hd HB
  refine sta 11 (fun w' => w'.cell? ⟨be, 0, none⟩ = some (.slice bg ar.length bh) ∧ w'.cell? ⟨be, 1, none⟩ = some (.slice bi au.length bj) ∧ w'.cell? ⟨J, 0, none⟩ = some (.int .i64 aA) ∧ w'.cell? ⟨J, 1, none⟩ = some (.int .i64 aB) ∧ w'.cell? ⟨J, 2, none⟩ = some (.int .i64 aC) ∧ w'.cell? ⟨J, 3, none⟩ = some (.int .i64 aD) ∧ w'.cell? ⟨J, 4, none⟩ = some (.int .i64 aE) ∧ w'.cell? ⟨J, 5, none⟩ = some (.int .i64 aF) ∧ w'.cell? ⟨J, 6, none⟩ = some (.int .i64 aG) ∧ w'.cell? ⟨J, 7, none⟩ = some (.int .i64 aH)) [] ⟨cx z 0, cx z 1, cx s 0, cx s 1, cx s 2, cx s 3, cx s 4, cx s 5, cx s 6, cx s 7⟩ (fun hHeld => ?_); refine with_tabW laws_FnExactGraphDo.tab5 laws_FnExactGraphDo.bits5 (fun HT_ HW_ => ?_)
  generalize gF.drew = il at z s HB hHeld ⊢
  refine tk 0 22 ?_
  refine tk 2 24 ?_
  refine join_ (σ := Value × Value × Value × Value × Nat) 2 #[true, true, true, true, true, true, true, true, true, false, false] (fun s_ => [(23, .agg #[s_.1, s_.2.1]), (25, .agg #[.int .i64 cg, .int .i64 ch, .int .i64 ci, .int .i64 cj, .int .i64 ck, .int .i64 cl, .int .i64 cm, .int .i64 cn]), (26, .tuple #[.agg #[s_.2.2.1, s_.2.2.2.1], .int .i64 bt]), (6, .pointer (some ⟨s_.2.2.2.2, 0, none⟩)), (21, .tuple #[.agg #[s_.2.2.1, s_.2.2.2.1], .int .i64 bt]), (27, .agg #[s_.2.2.1, s_.2.2.2.1]), (28, .int .i64 bt)]) (fun s_ w' => (w'.cell? ⟨be, 0, none⟩ = some (.slice bg ar.length bh) ∧ w'.cell? ⟨be, 1, none⟩ = some (.slice bi au.length bj) ∧ w'.cell? ⟨J, 0, none⟩ = some (.int .i64 aA) ∧ w'.cell? ⟨J, 1, none⟩ = some (.int .i64 aB) ∧ w'.cell? ⟨J, 2, none⟩ = some (.int .i64 aC) ∧ w'.cell? ⟨J, 3, none⟩ = some (.int .i64 aD) ∧ w'.cell? ⟨J, 4, none⟩ = some (.int .i64 aE) ∧ w'.cell? ⟨J, 5, none⟩ = some (.int .i64 aF) ∧ w'.cell? ⟨J, 6, none⟩ = some (.int .i64 aG) ∧ w'.cell? ⟨J, 7, none⟩ = some (.int .i64 aH)) ∧ (Kd.R k36 36 w' w.heap.size (fun k_ => some k_ ≠ (s_.2.2.1 : Value).ownBlock) s_.1 bF) ∧ (Kd.R k56 56 w' w.heap.size (fun k_ => some k_ ≠ (s_.2.2.2.1 : Value).ownBlock) s_.2.1 bG) ∧ (Kd.R k36 36 w' w.heap.size (fun k_ => some k_ ≠ (s_.1 : Value).ownBlock) s_.2.2.1 O) ∧ (Kd.R k56 56 w' w.heap.size (fun k_ => some k_ ≠ (s_.2.1 : Value).ownBlock) s_.2.2.2.1 T) ∧ (w'.heap[be]? = some (.cells #[.slice bg ar.length bh, .slice bi au.length bj] 25 (0, 0))) ∧ (w'.heap[J]? = some (.cells #[.int .i64 aA, .int .i64 aB, .int .i64 aC, .int .i64 aD, .int .i64 aE, .int .i64 aF, .int .i64 aG, .int .i64 aH] 72 (0, 0))) ∧ (w'.heap[s_.2.2.2.2]? = some (.cells #[.slice none 0 0, .slice none 0 0] 34 (0, 0))) ∧ (w.heap.size ≤ s_.2.2.2.2) ∧ (w.heap.size ≤ s_.2.2.2.2) ∧ (be ≠ s_.2.2.2.2) ∧ (s_.2.2.2.2 ≠ be) ∧ (J ≠ s_.2.2.2.2) ∧ (s_.2.2.2.2 ≠ J) ∧ (Below w.heap.size w w')) ?_ ?_
  rotate_left
  ·intro hCont
   refine two_ (i := 1) (j := 8) (Ni := some 23) (Nj := some 6) #[true, true, true, false, false, false, false, false, false, false, false] #[true, false, true, false, false, false, false, false, true, false, false] rfl rfl rfl rfl (two_of HT_.out (by kernel_rfl)) (by decide) (by decide) (fun K hK => ?_) (fun K hK => ?_)
   ·skip
    refine gs Try.func18 #[.agg #[.slice bg ar.length bh, .slice bi au.length bj]] ?_
    with_reducible refine (laws_toGraph.calls k _ _ ar _ _ au bF bG _ ?av ?aw ?ax ?aL fg.out).mono ?_
    (case av => exact Kd.C_below dv.out (bs HB.out))
    (case aw => exact dw.out)
    (case ax => exact Kd.C_below dx.out (bs HB.out))
    (case aL => exact dy.out)
    rintro e gG ⟨bH, bI, rfl, X, Y, hb⟩
    refine ⟨_, rfl, ?_⟩
    have ad := am (Kd.R_lower X (below_size (bs HB.out)))
    have ae := am (Kd.R_lower Y (below_size (bs HB.out)))
    replace z := bb z hb rfl
    replace s := bb s hb rfl
    replace HB := hs HB hb
    (try clear hb)
    (try clear hb2)
    (try clear hk)
    (try clear hi)
    (try clear X)
    (try clear Y)
    refine hK.out _ _ ⟨cx z 0, cx z 1, cx s 0, cx s 1, cx s 2, cx s 3, cx s 4, cx s 5, cx s 6, cx s 7⟩ (fun hHeld => ?_)
    clear hK K
    refine nrm 23 ?_
    refine two_ (i := 3) (j := 8) (Ni := some 25) (Nj := some 6) #[true, true, true, true, false, false, false, false, false, false, false] #[true, true, true, false, false, false, false, false, true, false, false] rfl rfl rfl rfl (two_of HT_.out (by kernel_rfl)) (by decide) (by decide) (fun K hK => ?_) (fun K hK => ?_)
    ·skip
     refine gs Try.func52 #[.agg #[.int .i64 aA, .int .i64 aB, .int .i64 aC, .int .i64 aD, .int .i64 aE, .int .i64 aF, .int .i64 aG, .int .i64 aH]] ?_
     with_reducible refine (laws_toOp.calls aA aB aC aD aE aF aG aH cg ch ci cj ck cl cm cn _ eU.out).mono ?_
     rintro e fo ⟨rfl, hb⟩
     refine ⟨_, rfl, ?_⟩
     replace ad := rb ad hb
     replace ae := rb ae hb
     replace z := bb z hb rfl
     replace s := bb s hb rfl
     replace HB := hs HB hb
     (try clear hb)
     (try clear hb2)
     (try clear hk)
     (try clear hi)
     obtain ⟨fp, fq, fr⟩ := Kd.R_slice ad.out
     (first | subst fr | (injection fr with an aS ao; have aT := an.symm; have aU := ao.symm; clear an aS ao; subst aT; subst aU))
     obtain ⟨cU, cV, cW⟩ := Kd.R_slice ae.out
     (first | subst cW | (injection cW with an aS ao; have aT := an.symm; have aU := ao.symm; clear an aS ao; subst aT; subst aU))
     refine hK.out _ _ ⟨cx z 0, cx z 1, cx s 0, cx s 1, cx s 2, cx s 3, cx s 4, cx s 5, cx s 6, cx s 7⟩ (fun hHeld => ?_)
     clear hK K
     refine nrm 25 ?_
     refine two_ (i := 4) (j := 8) (Ni := some 26) (Nj := some 6) #[true, true, true, true, true, false, false, false, false, false, false] #[true, true, true, true, false, false, false, false, true, false, false] rfl rfl rfl rfl (two_of HT_.out (by kernel_rfl)) (by decide) (by decide) (fun K hK => ?_) (fun K hK => ?_)
     ·skip
      refine gs Try.func51 #[.agg #[.slice fp bF.length fq, .slice cU bG.length cV], .agg #[.int .i64 cg, .int .i64 ch, .int .i64 ci, .int .i64 cj, .int .i64 ck, .int .i64 cl, .int .i64 cm, .int .i64 cn]] ?_
      with_reducible refine (spec_GraphDo.calls k _ _ bF _ _ bG cg ch ci cj ck cl cm cn O T bt _ ?av ?aw ?ax ?aL eH.out).mono ?_
      (case av => exact cr ad)
      (case aw => exact cc ad)
      (case ax => exact cr ae)
      (case aL => exact cc ae)
      rintro e im ⟨de, df, rfl, X, Y, hb⟩
      refine ⟨_, rfl, ?_⟩
      have aJ := am (Kd.R_lower (Kd.R_new' X (rk ad)) (below_size (bs HB.out)))
      replace ad := re ad X hb
      have aK := am (Kd.R_lower (Kd.R_new' Y (rk ae)) (below_size (bs HB.out)))
      replace ae := re ae Y hb
      replace z := bb z hb rfl
      replace s := bb s hb rfl
      replace HB := hs HB hb
      (try clear hb)
      (try clear hb2)
      (try clear hk)
      (try clear hi)
      (try clear X)
      (try clear Y)
      refine hK.out _ _ ⟨cx z 0, cx z 1, cx s 0, cx s 1, cx s 2, cx s 3, cx s 4, cx s 5, cx s 6, cx s 7⟩ (fun hHeld => ?_)
      clear hK K
      refine nrm 26 ?_
      refine pu 5 21 ?_
      refine pu 6 27 ?_
      refine pu 7 28 ?_
      refine on 8 6 (fun K hK => ?_)
      refine box_step ?hg (N := 6) ?hd (cs := #[.slice none 0 0, .slice none 0 0]) (t := 34) ?hr ?_; (case hd => rfl); (case hg => rfl); (case hr => first | (go_simp; done) | (go_simp; rfl))
      intro aI hg eX hbox hb
      replace ad := rb ad hb
      replace ae := rb ae hb
      replace aJ := rb aJ hb
      replace aK := rb aK hb
      have D := am hbox
      have dz := gwb HB hg
      have dA := gwb HB hg
      replace HB := hs HB hb
      have bz := nq z hg
      have bM := nq' z hg
      replace z := bb z hb rfl
      have bl := nq s hg
      have bN := nq' s hg
      replace s := bb s hb rfl
      clear hb hbox hg
      refine hK.out _ _ ⟨cx z 0, cx z 1, cx s 0, cx s 1, cx s 2, cx s 3, cx s 4, cx s 5, cx s 6, cx s 7⟩ (fun hHeld => ?_)
      clear hK K
      refine nrm 6 ?_
      exact norm_ (by simp only [putAll, Act.put, List.setIfInBounds_toArray, List.set_cons_zero, List.set_cons_succ]) (hCont (.slice fp bF.length fq, .slice cU bG.length cV, de, df, aI) _ ⟨hHeld, (by (with_reducible repeat (first | apply Kd.R_alloc | apply Kd.R_drewN | apply Kd.R_drew)); exact Kd.R_mono ad.out (fun _ hk => hk.2)), (by (with_reducible repeat (first | apply Kd.R_alloc | apply Kd.R_drewN | apply Kd.R_drew)); exact Kd.R_mono ae.out (fun _ hk => hk.2)), (by (with_reducible repeat (first | apply Kd.R_alloc | apply Kd.R_drewN | apply Kd.R_drew)); exact Kd.R_mono aJ.out (fun _ hk => hk.2)), (by (with_reducible repeat (first | apply Kd.R_alloc | apply Kd.R_drewN | apply Kd.R_drew)); exact Kd.R_mono aK.out (fun _ hk => hk.2)), (bf z.out), (bf s.out), (bf D.out), dz.out, dA.out, bz.out, bM.out, bl.out, bN.out, (bs HB.out)⟩)
     ·skip
      refine box_step ?hg (N := 6) ?hd (cs := #[.slice none 0 0, .slice none 0 0]) (t := 34) ?hr ?_; (case hd => rfl); (case hg => rfl); (case hr => first | (go_simp; done) | (go_simp; rfl))
      intro aI hg fs hbox hb
      replace ad := rb ad hb
      replace ae := rb ae hb
      have D := am hbox
      have dz := gwb HB hg
      have dA := gwb HB hg
      replace HB := hs HB hb
      have bz := nq z hg
      have bM := nq' z hg
      replace z := bb z hb rfl
      have bl := nq s hg
      have bN := nq' s hg
      replace s := bb s hb rfl
      clear hb hbox hg
      obtain ⟨cU, cV, cW⟩ := Kd.R_slice ad.out
      (first | subst cW | (injection cW with an aS ao; have aT := an.symm; have aU := ao.symm; clear an aS ao; subst aT; subst aU))
      obtain ⟨dB, dC, dD⟩ := Kd.R_slice ae.out
      (first | subst dD | (injection dD with an aS ao; have aT := an.symm; have aU := ao.symm; clear an aS ao; subst aT; subst aU))
      refine hK.out _ _ ⟨cx z 0, cx z 1, cx s 0, cx s 1, cx s 2, cx s 3, cx s 4, cx s 5, cx s 6, cx s 7⟩ (fun hHeld => ?_)
      clear hK K
      refine nrm 6 ?_
      refine on 4 26 (fun K hK => ?_)
      refine gs Try.func51 #[.agg #[.slice cU bF.length cV, .slice dB bG.length dC], .agg #[.int .i64 cg, .int .i64 ch, .int .i64 ci, .int .i64 cj, .int .i64 ck, .int .i64 cl, .int .i64 cm, .int .i64 cn]] ?_
      with_reducible refine (spec_GraphDo.calls k _ _ bF _ _ bG cg ch ci cj ck cl cm cn O T bt _ ?av ?aw ?ax ?aL eH.out).mono ?_
      (case av => exact cr ad)
      (case aw => exact cc ad)
      (case ax => exact cr ae)
      (case aL => exact cc ae)
      rintro e eX ⟨de, df, rfl, X, Y, hb⟩
      refine ⟨_, rfl, ?_⟩
      have aJ := am (Kd.R_lower (Kd.R_new' X (rk ad)) (below_size (bs HB.out)))
      replace ad := re ad X hb
      have aK := am (Kd.R_lower (Kd.R_new' Y (rk ae)) (below_size (bs HB.out)))
      replace ae := re ae Y hb
      replace z := bb z hb rfl
      replace s := bb s hb rfl
      replace D := bb D hb rfl
      replace HB := hs HB hb
      (try clear hb)
      (try clear hb2)
      (try clear hk)
      (try clear hi)
      (try clear X)
      (try clear Y)
      refine hK.out _ _ ⟨cx z 0, cx z 1, cx s 0, cx s 1, cx s 2, cx s 3, cx s 4, cx s 5, cx s 6, cx s 7⟩ (fun hHeld => ?_)
      clear hK K
      refine nrm 26 ?_
      refine pu 5 21 ?_
      refine pu 6 27 ?_
      refine pu 7 28 ?_
      exact norm_ (by simp only [putAll, Act.put, List.setIfInBounds_toArray, List.set_cons_zero, List.set_cons_succ]) (hCont (.slice cU bF.length cV, .slice dB bG.length dC, de, df, aI) _ ⟨hHeld, (by (with_reducible repeat (first | apply Kd.R_alloc | apply Kd.R_drewN | apply Kd.R_drew)); exact Kd.R_mono ad.out (fun _ hk => hk.2)), (by (with_reducible repeat (first | apply Kd.R_alloc | apply Kd.R_drewN | apply Kd.R_drew)); exact Kd.R_mono ae.out (fun _ hk => hk.2)), (by (with_reducible repeat (first | apply Kd.R_alloc | apply Kd.R_drewN | apply Kd.R_drew)); exact Kd.R_mono aJ.out (fun _ hk => hk.2)), (by (with_reducible repeat (first | apply Kd.R_alloc | apply Kd.R_drewN | apply Kd.R_drew)); exact Kd.R_mono aK.out (fun _ hk => hk.2)), (bf z.out), (bf s.out), (bf D.out), dz.out, dA.out, bz.out, bM.out, bl.out, bN.out, (bs HB.out)⟩)
    ·skip
     refine box_step ?hg (N := 6) ?hd (cs := #[.slice none 0 0, .slice none 0 0]) (t := 34) ?hr ?_; (case hd => rfl); (case hg => rfl); (case hr => first | (go_simp; done) | (go_simp; rfl))
     intro aI hg fo hbox hb
     replace ad := rb ad hb
     replace ae := rb ae hb
     have D := am hbox
     have dz := gwb HB hg
     have dA := gwb HB hg
     replace HB := hs HB hb
     have bz := nq z hg
     have bM := nq' z hg
     replace z := bb z hb rfl
     have bl := nq s hg
     have bN := nq' s hg
     replace s := bb s hb rfl
     clear hb hbox hg
     refine hK.out _ _ ⟨cx z 0, cx z 1, cx s 0, cx s 1, cx s 2, cx s 3, cx s 4, cx s 5, cx s 6, cx s 7⟩ (fun hHeld => ?_)
     clear hK K
     refine nrm 6 ?_
     refine on 3 25 (fun K hK => ?_)
     refine gs Try.func52 #[.agg #[.int .i64 aA, .int .i64 aB, .int .i64 aC, .int .i64 aD, .int .i64 aE, .int .i64 aF, .int .i64 aG, .int .i64 aH]] ?_
     with_reducible refine (laws_toOp.calls aA aB aC aD aE aF aG aH cg ch ci cj ck cl cm cn _ eU.out).mono ?_
     rintro e fs ⟨rfl, hb⟩
     refine ⟨_, rfl, ?_⟩
     replace ad := rb ad hb
     replace ae := rb ae hb
     replace z := bb z hb rfl
     replace s := bb s hb rfl
     replace D := bb D hb rfl
     replace HB := hs HB hb
     (try clear hb)
     (try clear hb2)
     (try clear hk)
     (try clear hi)
     obtain ⟨cU, cV, cW⟩ := Kd.R_slice ad.out
     (first | subst cW | (injection cW with an aS ao; have aT := an.symm; have aU := ao.symm; clear an aS ao; subst aT; subst aU))
     obtain ⟨dB, dC, dD⟩ := Kd.R_slice ae.out
     (first | subst dD | (injection dD with an aS ao; have aT := an.symm; have aU := ao.symm; clear an aS ao; subst aT; subst aU))
     refine hK.out _ _ ⟨cx z 0, cx z 1, cx s 0, cx s 1, cx s 2, cx s 3, cx s 4, cx s 5, cx s 6, cx s 7⟩ (fun hHeld => ?_)
     clear hK K
     refine nrm 25 ?_
     refine on 4 26 (fun K hK => ?_)
     refine gs Try.func51 #[.agg #[.slice cU bF.length cV, .slice dB bG.length dC], .agg #[.int .i64 cg, .int .i64 ch, .int .i64 ci, .int .i64 cj, .int .i64 ck, .int .i64 cl, .int .i64 cm, .int .i64 cn]] ?_
     with_reducible refine (spec_GraphDo.calls k _ _ bF _ _ bG cg ch ci cj ck cl cm cn O T bt _ ?av ?aw ?ax ?aL eH.out).mono ?_
     (case av => exact cr ad)
     (case aw => exact cc ad)
     (case ax => exact cr ae)
     (case aL => exact cc ae)
     rintro e eX ⟨de, df, rfl, X, Y, hb⟩
     refine ⟨_, rfl, ?_⟩
     have aJ := am (Kd.R_lower (Kd.R_new' X (rk ad)) (below_size (bs HB.out)))
     replace ad := re ad X hb
     have aK := am (Kd.R_lower (Kd.R_new' Y (rk ae)) (below_size (bs HB.out)))
     replace ae := re ae Y hb
     replace z := bb z hb rfl
     replace s := bb s hb rfl
     replace D := bb D hb rfl
     replace HB := hs HB hb
     (try clear hb)
     (try clear hb2)
     (try clear hk)
     (try clear hi)
     (try clear X)
     (try clear Y)
     refine hK.out _ _ ⟨cx z 0, cx z 1, cx s 0, cx s 1, cx s 2, cx s 3, cx s 4, cx s 5, cx s 6, cx s 7⟩ (fun hHeld => ?_)
     clear hK K
     refine nrm 26 ?_
     refine pu 5 21 ?_
     refine pu 6 27 ?_
     refine pu 7 28 ?_
     exact norm_ (by simp only [putAll, Act.put, List.setIfInBounds_toArray, List.set_cons_zero, List.set_cons_succ]) (hCont (.slice cU bF.length cV, .slice dB bG.length dC, de, df, aI) _ ⟨hHeld, (by (with_reducible repeat (first | apply Kd.R_alloc | apply Kd.R_drewN | apply Kd.R_drew)); exact Kd.R_mono ad.out (fun _ hk => hk.2)), (by (with_reducible repeat (first | apply Kd.R_alloc | apply Kd.R_drewN | apply Kd.R_drew)); exact Kd.R_mono ae.out (fun _ hk => hk.2)), (by (with_reducible repeat (first | apply Kd.R_alloc | apply Kd.R_drewN | apply Kd.R_drew)); exact Kd.R_mono aJ.out (fun _ hk => hk.2)), (by (with_reducible repeat (first | apply Kd.R_alloc | apply Kd.R_drewN | apply Kd.R_drew)); exact Kd.R_mono aK.out (fun _ hk => hk.2)), (bf z.out), (bf s.out), (bf D.out), dz.out, dA.out, bz.out, bM.out, bl.out, bN.out, (bs HB.out)⟩)
   ·skip
    refine box_step ?hg (N := 6) ?hd (cs := #[.slice none 0 0, .slice none 0 0]) (t := 34) ?hr ?_; (case hd => rfl); (case hg => rfl); (case hr => first | (go_simp; done) | (go_simp; rfl))
    intro aI hg gG hbox hb
    have D := am hbox
    have dz := gwb HB hg
    have dA := gwb HB hg
    replace HB := hs HB hb
    have bz := nq z hg
    have bM := nq' z hg
    replace z := bb z hb rfl
    have bl := nq s hg
    have bN := nq' s hg
    replace s := bb s hb rfl
    clear hb hbox hg
    refine hK.out _ _ ⟨cx z 0, cx z 1, cx s 0, cx s 1, cx s 2, cx s 3, cx s 4, cx s 5, cx s 6, cx s 7⟩ (fun hHeld => ?_)
    clear hK K
    refine nrm 6 ?_
    refine on 1 23 (fun K hK => ?_)
    refine gs Try.func18 #[.agg #[.slice bg ar.length bh, .slice bi au.length bj]] ?_
    with_reducible refine (laws_toGraph.calls k _ _ ar _ _ au bF bG _ ?av ?aw ?ax ?aL fg.out).mono ?_
    (case av => exact Kd.C_below dv.out (bs HB.out))
    (case aw => exact dw.out)
    (case ax => exact Kd.C_below dx.out (bs HB.out))
    (case aL => exact dy.out)
    rintro e fo ⟨bH, bI, rfl, X, Y, hb⟩
    refine ⟨_, rfl, ?_⟩
    have ad := am (Kd.R_lower X (below_size (bs HB.out)))
    have ae := am (Kd.R_lower Y (below_size (bs HB.out)))
    replace z := bb z hb rfl
    replace s := bb s hb rfl
    replace D := bb D hb rfl
    replace HB := hs HB hb
    (try clear hb)
    (try clear hb2)
    (try clear hk)
    (try clear hi)
    (try clear X)
    (try clear Y)
    refine hK.out _ _ ⟨cx z 0, cx z 1, cx s 0, cx s 1, cx s 2, cx s 3, cx s 4, cx s 5, cx s 6, cx s 7⟩ (fun hHeld => ?_)
    clear hK K
    refine nrm 23 ?_
    refine on 3 25 (fun K hK => ?_)
    refine gs Try.func52 #[.agg #[.int .i64 aA, .int .i64 aB, .int .i64 aC, .int .i64 aD, .int .i64 aE, .int .i64 aF, .int .i64 aG, .int .i64 aH]] ?_
    with_reducible refine (laws_toOp.calls aA aB aC aD aE aF aG aH cg ch ci cj ck cl cm cn _ eU.out).mono ?_
    rintro e fs ⟨rfl, hb⟩
    refine ⟨_, rfl, ?_⟩
    replace ad := rb ad hb
    replace ae := rb ae hb
    replace z := bb z hb rfl
    replace s := bb s hb rfl
    replace D := bb D hb rfl
    replace HB := hs HB hb
    (try clear hb)
    (try clear hb2)
    (try clear hk)
    (try clear hi)
    obtain ⟨cU, cV, cW⟩ := Kd.R_slice ad.out
    (first | subst cW | (injection cW with an aS ao; have aT := an.symm; have aU := ao.symm; clear an aS ao; subst aT; subst aU))
    obtain ⟨dB, dC, dD⟩ := Kd.R_slice ae.out
    (first | subst dD | (injection dD with an aS ao; have aT := an.symm; have aU := ao.symm; clear an aS ao; subst aT; subst aU))
    refine hK.out _ _ ⟨cx z 0, cx z 1, cx s 0, cx s 1, cx s 2, cx s 3, cx s 4, cx s 5, cx s 6, cx s 7⟩ (fun hHeld => ?_)
    clear hK K
    refine nrm 25 ?_
    refine on 4 26 (fun K hK => ?_)
    refine gs Try.func51 #[.agg #[.slice cU bF.length cV, .slice dB bG.length dC], .agg #[.int .i64 cg, .int .i64 ch, .int .i64 ci, .int .i64 cj, .int .i64 ck, .int .i64 cl, .int .i64 cm, .int .i64 cn]] ?_
    with_reducible refine (spec_GraphDo.calls k _ _ bF _ _ bG cg ch ci cj ck cl cm cn O T bt _ ?av ?aw ?ax ?aL eH.out).mono ?_
    (case av => exact cr ad)
    (case aw => exact cc ad)
    (case ax => exact cr ae)
    (case aL => exact cc ae)
    rintro e eX ⟨de, df, rfl, X, Y, hb⟩
    refine ⟨_, rfl, ?_⟩
    have aJ := am (Kd.R_lower (Kd.R_new' X (rk ad)) (below_size (bs HB.out)))
    replace ad := re ad X hb
    have aK := am (Kd.R_lower (Kd.R_new' Y (rk ae)) (below_size (bs HB.out)))
    replace ae := re ae Y hb
    replace z := bb z hb rfl
    replace s := bb s hb rfl
    replace D := bb D hb rfl
    replace HB := hs HB hb
    (try clear hb)
    (try clear hb2)
    (try clear hk)
    (try clear hi)
    (try clear X)
    (try clear Y)
    refine hK.out _ _ ⟨cx z 0, cx z 1, cx s 0, cx s 1, cx s 2, cx s 3, cx s 4, cx s 5, cx s 6, cx s 7⟩ (fun hHeld => ?_)
    clear hK K
    refine nrm 26 ?_
    refine pu 5 21 ?_
    refine pu 6 27 ?_
    refine pu 7 28 ?_
    exact norm_ (by simp only [putAll, Act.put, List.setIfInBounds_toArray, List.set_cons_zero, List.set_cons_succ]) (hCont (.slice cU bF.length cV, .slice dB bG.length dC, de, df, aI) _ ⟨hHeld, (by (with_reducible repeat (first | apply Kd.R_alloc | apply Kd.R_drewN | apply Kd.R_drew)); exact Kd.R_mono ad.out (fun _ hk => hk.2)), (by (with_reducible repeat (first | apply Kd.R_alloc | apply Kd.R_drewN | apply Kd.R_drew)); exact Kd.R_mono ae.out (fun _ hk => hk.2)), (by (with_reducible repeat (first | apply Kd.R_alloc | apply Kd.R_drewN | apply Kd.R_drew)); exact Kd.R_mono aJ.out (fun _ hk => hk.2)), (by (with_reducible repeat (first | apply Kd.R_alloc | apply Kd.R_drewN | apply Kd.R_drew)); exact Kd.R_mono aK.out (fun _ hk => hk.2)), (bf z.out), (bf s.out), (bf D.out), dz.out, dA.out, bz.out, bM.out, bl.out, bN.out, (bs HB.out)⟩)
  rintro ⟨bH, bI, de, df, aI⟩ bA ⟨hS_, dE, dF, dG, dH, dI, dJ, dK, dL, dM, dN, dO, dP, dQ, dR⟩
  have co : Aside0 (Kd.R k36 36 bA w.heap.size (fun k_ => some k_ ≠ (de : Value).ownBlock) bH bF) := ⟨dE⟩
  have cp : Aside0 (Kd.R k56 56 bA w.heap.size (fun k_ => some k_ ≠ (df : Value).ownBlock) bI bG) := ⟨dF⟩
  have ct : Aside0 (Kd.R k36 36 bA w.heap.size (fun k_ => some k_ ≠ (bH : Value).ownBlock) de O) := ⟨dG⟩
  have cu : Aside0 (Kd.R k56 56 bA w.heap.size (fun k_ => some k_ ≠ (bI : Value).ownBlock) df T) := ⟨dH⟩
  have cv : Aside0 (bA.heap[be]? = some (.cells #[.slice bg ar.length bh, .slice bi au.length bj] 25 (0, 0))) := ⟨dI⟩
  have cy : Aside0 (bA.heap[J]? = some (.cells #[.int .i64 aA, .int .i64 aB, .int .i64 aC, .int .i64 aD, .int .i64 aE, .int .i64 aF, .int .i64 aG, .int .i64 aH] 72 (0, 0))) := ⟨dJ⟩
  have cz : Aside0 (bA.heap[aI]? = some (.cells #[.slice none 0 0, .slice none 0 0] 34 (0, 0))) := ⟨dK⟩
  have cA : Ge w aI := ⟨dL⟩
  have cB : Ge w aI := ⟨dM⟩
  have cC : Nq be aI := ⟨dN⟩
  have cD : Nq aI be := ⟨dO⟩
  have dS : Nq J aI := ⟨dP⟩
  have dT : Nq aI J := ⟨dQ⟩
  have dU : Aside0 (Below w.heap.size w bA) := ⟨dR⟩
  clear z
  clear s
  clear HB
  clear dE dF dG dH dI dJ dK dL dM dN dO dP dQ dR
  have ad := co
  have ae := cp
  have aJ := ct
  have aK := cu
  have z := cv
  have s := cy
  have D := cz
  have dz := cA
  have dA := cB
  have bz := cC
  have bM := cD
  have bl := dS
  have bN := dT
  have HB := dU
  clear co cp ct cu cv cy cz cA cB cC cD dS dT dU
  have hHeld : bA.cell? ⟨be, 0, none⟩ = some (.slice bg ar.length bh) ∧ bA.cell? ⟨be, 1, none⟩ = some (.slice bi au.length bj) ∧ bA.cell? ⟨J, 0, none⟩ = some (.int .i64 aA) ∧ bA.cell? ⟨J, 1, none⟩ = some (.int .i64 aB) ∧ bA.cell? ⟨J, 2, none⟩ = some (.int .i64 aC) ∧ bA.cell? ⟨J, 3, none⟩ = some (.int .i64 aD) ∧ bA.cell? ⟨J, 4, none⟩ = some (.int .i64 aE) ∧ bA.cell? ⟨J, 5, none⟩ = some (.int .i64 aF) ∧ bA.cell? ⟨J, 6, none⟩ = some (.int .i64 aG) ∧ bA.cell? ⟨J, 7, none⟩ = some (.int .i64 aH) := hS_
  obtain ⟨aM, ay, ft⟩ := Kd.R_slice aJ.out
  (first | subst ft | (injection ft with an aS ao; have aT := an.symm; have aU := ao.symm; clear an aS ao; subst aT; subst aU))
  obtain ⟨aN, az, fu⟩ := Kd.R_slice aK.out
  (first | subst fu | (injection fu with an aS ao; have aT := an.symm; have aU := ao.symm; clear an aS ao; subst aT; subst aU))
  refine norm_ (a' := ?_) ?_ ?_
  rotate_left
  ·simp only [putAll, Act.put, List.setIfInBounds_toArray, List.set_cons_zero, List.set_cons_succ]
   rfl
  refine on0 9 (fun K hK => ?_)
  have io : bA.cell? ⟨aI, 0, none⟩ = some (.slice none 0 0) := cx D 0
  have ip := blk_frozen D.out 0
  have iq := bz.out
  have ir := bl.out
  have it := bM.out
  have iu := bN.out
  have iv : bA.cell? ⟨aI, 1, none⟩ = some (.slice none 0 0) := cx D 1
  have iw := blk_frozen D.out 1
  have ix := bz.out
  have iy := bl.out
  have iz := bM.out
  have iA := bN.out
  refine sk ?_
  refine hK.out _ _ ⟨((cell_far (p := ⟨aI, _, none⟩) bz.out _).trans (((cell_far (p := ⟨aI, _, none⟩) bz.out _).trans (hHeld.1)))), ((cell_far (p := ⟨aI, _, none⟩) bz.out _).trans (((cell_far (p := ⟨aI, _, none⟩) bz.out _).trans (hHeld.2.1)))), ((cell_far (p := ⟨aI, _, none⟩) bl.out _).trans (((cell_far (p := ⟨aI, _, none⟩) bl.out _).trans (hHeld.2.2.1)))), ((cell_far (p := ⟨aI, _, none⟩) bl.out _).trans (((cell_far (p := ⟨aI, _, none⟩) bl.out _).trans (hHeld.2.2.2.1)))), ((cell_far (p := ⟨aI, _, none⟩) bl.out _).trans (((cell_far (p := ⟨aI, _, none⟩) bl.out _).trans (hHeld.2.2.2.2.1)))), ((cell_far (p := ⟨aI, _, none⟩) bl.out _).trans (((cell_far (p := ⟨aI, _, none⟩) bl.out _).trans (hHeld.2.2.2.2.2.1)))), ((cell_far (p := ⟨aI, _, none⟩) bl.out _).trans (((cell_far (p := ⟨aI, _, none⟩) bl.out _).trans (hHeld.2.2.2.2.2.2.1)))), ((cell_far (p := ⟨aI, _, none⟩) bl.out _).trans (((cell_far (p := ⟨aI, _, none⟩) bl.out _).trans (hHeld.2.2.2.2.2.2.2.1)))), ((cell_far (p := ⟨aI, _, none⟩) bl.out _).trans (((cell_far (p := ⟨aI, _, none⟩) bl.out _).trans (hHeld.2.2.2.2.2.2.2.2.1)))), ((cell_far (p := ⟨aI, _, none⟩) bl.out _).trans (((cell_far (p := ⟨aI, _, none⟩) bl.out _).trans (hHeld.2.2.2.2.2.2.2.2.2))))⟩ (fun hHeld => ?_)
  clear hK K
  refine pu 10 7 ?_
  refine dn ?_
  have iB := bz.out
  have iC := bM.out
  obtain ⟨iD, iE⟩ := bc2 (w := bA) z.out
  have iF := blk_frozen z.out
  try go_wp2_with (first | ((with_reducible refine gc 18 rfl ?_); refine gl 30 Try.func18 #[.agg #[.slice bg ar.length bh, .slice bi au.length bj]] ?_; (with_reducible refine (laws_toGraph.calls k _ _ ar _ _ au al ap _ ?av ?aw ?ax ?aL gD.out).mono ?_); (case av => exact Kd.C_below dv.out (bs HB.out)); (case aw => exact dw.out); (case ax => exact Kd.C_below dx.out (bs HB.out)); (case aL => exact dy.out); rintro e iG ⟨iH, iI, rfl, X, Y, hb⟩; refine ⟨_, rfl, ?_⟩; have aZ := am (Kd.R_lower (Kd.R_new' (Kd.R_new' X (Kd.R_lt (rt ad.out D.out (by decide)))) (Kd.R_lt (rt aJ.out D.out (by decide)))) (below_size (bs HB.out))); replace ad := am (Kd.R_elder' (rt ad.out D.out (by decide)) (Kd.R_base X) hb); replace aJ := am (Kd.R_elder' (rt aJ.out D.out (by decide)) (Kd.R_base X) hb); have ba := am (Kd.R_lower (Kd.R_new' (Kd.R_new' Y (Kd.R_lt (rt ae.out D.out (by decide)))) (Kd.R_lt (rt aK.out D.out (by decide)))) (below_size (bs HB.out))); replace ae := am (Kd.R_elder' (rt ae.out D.out (by decide)) (Kd.R_base Y) hb); replace aK := am (Kd.R_elder' (rt aK.out D.out (by decide)) (Kd.R_base Y) hb); replace z := am (blk_below (g := be) (o := .cells #[.slice bg ar.length bh, .slice bi au.length bj] 25 (0, 0)) (bf z.out) hb); replace s := am (blk_below (g := J) (o := .cells #[.int .i64 aA, .int .i64 aB, .int .i64 aC, .int .i64 aD, .int .i64 aE, .int .i64 aF, .int .i64 aG, .int .i64 aH] 72 (0, 0)) (bf s.out) hb); replace D := bq #[.slice aM O.length ay, .slice aN T.length az] D hb; replace HB := hs HB hb; (try clear hb); (try clear hb2); (try clear hk); (try clear hi); (try clear X); (try clear Y)) | ((with_reducible refine gd 8 rfl ?_); refine bx 8 (cs := #[.slice none 0 0, .slice none 0 0]) (t := 34) ?_; intro aO hg b1 hbox hb; replace ad := rb ad hb; replace ae := rb ae hb; replace aJ := rb aJ hb; replace aK := rb aK hb; replace aZ := rb aZ hb; replace ba := rb ba hb; have G := am hbox; have iJ := gwb HB hg; replace HB := hs HB hb; have fv := nq z hg; have fw := nq' z hg; replace z := bb z hb rfl; have fx := nq s hg; have fy := nq' s hg; replace s := bb s hb rfl; have dV := nq D hg; have dW := nq' D hg; replace D := bb D hb rfl; clear hb hbox hg; obtain ⟨af, ag, gH⟩ := Kd.R_slice aZ.out; subst gH; have iK := fw.out; have iL := fv.out; have iM := fy.out; have iN := fx.out; have iO := dW.out; have iP := dV.out; obtain ⟨iQ, iR⟩ := bc2 (w := b1) G.out; have iS := blk_frozen G.out; obtain ⟨ah, ai, gI⟩ := Kd.R_slice ba.out; subst gI))
  have co : Aside0 (Kd.R k36 36 ((b1.setCell ⟨aO, 0, none⟩ (.slice af al.length ag)).setCell ⟨aO, 1, none⟩ (.slice ah ap.length ai)) w.heap.size (fun k_ => some k_ ≠ (.slice aM O.length ay : Value).ownBlock ∧ some k_ ≠ (.slice af al.length ag : Value).ownBlock) bH bF) := ⟨Kd.R_mono (rt ad.out G.out (by decide)) (fun _ hk => ⟨hk.1, hk.2⟩)⟩
  have cp : Aside0 (Kd.R k56 56 ((b1.setCell ⟨aO, 0, none⟩ (.slice af al.length ag)).setCell ⟨aO, 1, none⟩ (.slice ah ap.length ai)) w.heap.size (fun k_ => some k_ ≠ (.slice aN T.length az : Value).ownBlock ∧ some k_ ≠ (.slice ah ap.length ai : Value).ownBlock) bI bG) := ⟨Kd.R_mono (rt ae.out G.out (by decide)) (fun _ hk => ⟨hk.1, hk.2⟩)⟩
  have ct : Aside0 (Kd.R k36 36 ((b1.setCell ⟨aO, 0, none⟩ (.slice af al.length ag)).setCell ⟨aO, 1, none⟩ (.slice ah ap.length ai)) w.heap.size (fun k_ => some k_ ≠ (bH : Value).ownBlock ∧ some k_ ≠ (.slice af al.length ag : Value).ownBlock) (.slice aM O.length ay) O) := ⟨Kd.R_mono (rt aJ.out G.out (by decide)) (fun _ hk => ⟨hk.1, hk.2⟩)⟩
  have cu : Aside0 (Kd.R k56 56 ((b1.setCell ⟨aO, 0, none⟩ (.slice af al.length ag)).setCell ⟨aO, 1, none⟩ (.slice ah ap.length ai)) w.heap.size (fun k_ => some k_ ≠ (bI : Value).ownBlock ∧ some k_ ≠ (.slice ah ap.length ai : Value).ownBlock) (.slice aN T.length az) T) := ⟨Kd.R_mono (rt aK.out G.out (by decide)) (fun _ hk => ⟨hk.1, hk.2⟩)⟩
  have cv : Aside0 (Kd.R k36 36 ((b1.setCell ⟨aO, 0, none⟩ (.slice af al.length ag)).setCell ⟨aO, 1, none⟩ (.slice ah ap.length ai)) w.heap.size (fun k_ => some k_ ≠ (bH : Value).ownBlock ∧ some k_ ≠ (.slice aM O.length ay : Value).ownBlock) (.slice af al.length ag) al) := ⟨Kd.R_mono (rt aZ.out G.out (by decide)) (fun _ hk => ⟨hk.1.2, hk.2⟩)⟩
  have cy : Aside0 (Kd.R k56 56 ((b1.setCell ⟨aO, 0, none⟩ (.slice af al.length ag)).setCell ⟨aO, 1, none⟩ (.slice ah ap.length ai)) w.heap.size (fun k_ => some k_ ≠ (bI : Value).ownBlock ∧ some k_ ≠ (.slice aN T.length az : Value).ownBlock) (.slice ah ap.length ai) ap) := ⟨Kd.R_mono (rt ba.out G.out (by decide)) (fun _ hk => ⟨hk.1.2, hk.2⟩)⟩
  have cz : Aside0 (((b1.setCell ⟨aO, 0, none⟩ (.slice af al.length ag)).setCell ⟨aO, 1, none⟩ (.slice ah ap.length ai)).heap[be]? = some (.cells #[.slice bg ar.length bh, .slice bi au.length bj] 25 (0, 0))) := ⟨bf z.out⟩
  have cA : Aside0 (((b1.setCell ⟨aO, 0, none⟩ (.slice af al.length ag)).setCell ⟨aO, 1, none⟩ (.slice ah ap.length ai)).heap[J]? = some (.cells #[.int .i64 aA, .int .i64 aB, .int .i64 aC, .int .i64 aD, .int .i64 aE, .int .i64 aF, .int .i64 aG, .int .i64 aH] 72 (0, 0))) := ⟨bf s.out⟩
  have cB : Aside0 (((b1.setCell ⟨aO, 0, none⟩ (.slice af al.length ag)).setCell ⟨aO, 1, none⟩ (.slice ah ap.length ai)).heap[aI]? = some (.cells #[.slice aM O.length ay, .slice aN T.length az] 34 (0, 0))) := ⟨bf D.out⟩
  have cC : Aside0 (((b1.setCell ⟨aO, 0, none⟩ (.slice af al.length ag)).setCell ⟨aO, 1, none⟩ (.slice ah ap.length ai)).heap[aO]? = some (.cells #[.slice af al.length ag, .slice ah ap.length ai] 34 (0, 0))) := ⟨by (with_reducible repeat (first | refine blk_drewN ?_ _ | refine blk_drew ?_ | refine blk_alloc ?_ _)); refine blk_put (cs := #[.slice af al.length ag, .slice none 0 0]) ?_ 1 _ rfl; (with_reducible repeat (first | refine blk_drewN ?_ _ | refine blk_drew ?_ | refine blk_alloc ?_ _)); refine blk_put (cs := #[.slice none 0 0, .slice none 0 0]) ?_ 0 _ rfl; exact bf G.out⟩
  have cD : Aside0 (Below w.heap.size w ((b1.setCell ⟨aO, 0, none⟩ (.slice af al.length ag)).setCell ⟨aO, 1, none⟩ (.slice ah ap.length ai))) := ⟨bs HB.out⟩
  (try clear ad)
  (try clear ae)
  (try clear aJ)
  (try clear aK)
  (try clear aZ)
  (try clear ba)
  (try clear z)
  (try clear s)
  (try clear D)
  (try clear G)
  (try clear HB)
  generalize ((b1.setCell ⟨aO, 0, none⟩ (.slice af al.length ag)).setCell ⟨aO, 1, none⟩ (.slice ah ap.length ai)) = gJ at co cp ct cu cv cy cz cA cB cC cD ⊢
  have ad := co
  have ae := cp
  have aJ := ct
  have aK := cu
  have aZ := cv
  have ba := cy
  have z := cz
  have s := cA
  have D := cB
  have G := cC
  have HB := cD
  clear co cp ct cu cv cy cz cA cB cC cD
  replace ad := rd_ ad
  replace ae := rd_ ae
  replace aJ := rd_ aJ
  replace aK := rd_ aK
  replace aZ := rd_ aZ
  replace ba := rd_ ba
  replace z := bd z
  replace s := bd s
  replace D := bd D
  replace G := bd G
  replace HB := hd HB
  refine sta 10 (fun w' => w'.cell? ⟨aO, 0, none⟩ = some (.slice af al.length ag) ∧ w'.cell? ⟨aO, 1, none⟩ = some (.slice ah ap.length ai) ∧ w'.cell? ⟨J, 0, none⟩ = some (.int .i64 aA) ∧ w'.cell? ⟨J, 1, none⟩ = some (.int .i64 aB) ∧ w'.cell? ⟨J, 2, none⟩ = some (.int .i64 aC) ∧ w'.cell? ⟨J, 3, none⟩ = some (.int .i64 aD) ∧ w'.cell? ⟨J, 4, none⟩ = some (.int .i64 aE) ∧ w'.cell? ⟨J, 5, none⟩ = some (.int .i64 aF) ∧ w'.cell? ⟨J, 6, none⟩ = some (.int .i64 aG) ∧ w'.cell? ⟨J, 7, none⟩ = some (.int .i64 aH)) [] ⟨cx G 0, cx G 1, cx s 0, cx s 1, cx s 2, cx s 3, cx s 4, cx s 5, cx s 6, cx s 7⟩ (fun hHeld => ?_); refine with_tabW laws_FnExactGraphDo.tab7 laws_FnExactGraphDo.bits7 (fun HT_ HW_ => ?_)
  generalize gJ.drew = iT at ad ae aJ aK aZ ba z s D G HB hHeld ⊢
  refine tk 0 32 ?_
  refine tk 1 33 ?_
  refine join_ (σ := Value × Value × Nat) 2 #[true, true, true, true, true, true, true, true, false, false] (fun s_ => [(34, .agg #[.int .i64 di, .int .i64 dj, .int .i64 dk, .int .i64 dl, .int .i64 dm, .int .i64 dp, .int .i64 dq, .int .i64 dr]), (35, .tuple #[.agg #[s_.1, s_.2.1], .int .i64 bT]), (9, .pointer (some ⟨s_.2.2, 0, none⟩)), (31, .tuple #[.agg #[s_.1, s_.2.1], .int .i64 bT]), (36, .agg #[s_.1, s_.2.1]), (37, .int .i64 bT)]) (fun s_ w' => (w'.cell? ⟨aO, 0, none⟩ = some (.slice af al.length ag) ∧ w'.cell? ⟨aO, 1, none⟩ = some (.slice ah ap.length ai) ∧ w'.cell? ⟨J, 0, none⟩ = some (.int .i64 aA) ∧ w'.cell? ⟨J, 1, none⟩ = some (.int .i64 aB) ∧ w'.cell? ⟨J, 2, none⟩ = some (.int .i64 aC) ∧ w'.cell? ⟨J, 3, none⟩ = some (.int .i64 aD) ∧ w'.cell? ⟨J, 4, none⟩ = some (.int .i64 aE) ∧ w'.cell? ⟨J, 5, none⟩ = some (.int .i64 aF) ∧ w'.cell? ⟨J, 6, none⟩ = some (.int .i64 aG) ∧ w'.cell? ⟨J, 7, none⟩ = some (.int .i64 aH)) ∧ (Kd.R k36 36 w' w.heap.size (fun k_ => some k_ ≠ (.slice aM O.length ay : Value).ownBlock ∧ some k_ ≠ (.slice af al.length ag : Value).ownBlock ∧ some k_ ≠ (s_.1 : Value).ownBlock) bH bF) ∧ (Kd.R k56 56 w' w.heap.size (fun k_ => some k_ ≠ (.slice aN T.length az : Value).ownBlock ∧ some k_ ≠ (.slice ah ap.length ai : Value).ownBlock ∧ some k_ ≠ (s_.2.1 : Value).ownBlock) bI bG) ∧ (Kd.R k36 36 w' w.heap.size (fun k_ => some k_ ≠ (bH : Value).ownBlock ∧ some k_ ≠ (.slice af al.length ag : Value).ownBlock ∧ some k_ ≠ (s_.1 : Value).ownBlock) (.slice aM O.length ay) O) ∧ (Kd.R k56 56 w' w.heap.size (fun k_ => some k_ ≠ (bI : Value).ownBlock ∧ some k_ ≠ (.slice ah ap.length ai : Value).ownBlock ∧ some k_ ≠ (s_.2.1 : Value).ownBlock) (.slice aN T.length az) T) ∧ (Kd.R k36 36 w' w.heap.size (fun k_ => some k_ ≠ (bH : Value).ownBlock ∧ some k_ ≠ (.slice aM O.length ay : Value).ownBlock ∧ some k_ ≠ (s_.1 : Value).ownBlock) (.slice af al.length ag) al) ∧ (Kd.R k56 56 w' w.heap.size (fun k_ => some k_ ≠ (bI : Value).ownBlock ∧ some k_ ≠ (.slice aN T.length az : Value).ownBlock ∧ some k_ ≠ (s_.2.1 : Value).ownBlock) (.slice ah ap.length ai) ap) ∧ (Kd.R k36 36 w' w.heap.size (fun k_ => some k_ ≠ (bH : Value).ownBlock ∧ some k_ ≠ (.slice aM O.length ay : Value).ownBlock ∧ some k_ ≠ (.slice af al.length ag : Value).ownBlock) s_.1 aj) ∧ (Kd.R k56 56 w' w.heap.size (fun k_ => some k_ ≠ (bI : Value).ownBlock ∧ some k_ ≠ (.slice aN T.length az : Value).ownBlock ∧ some k_ ≠ (.slice ah ap.length ai : Value).ownBlock) s_.2.1 ak) ∧ (w'.heap[be]? = some (.cells #[.slice bg ar.length bh, .slice bi au.length bj] 25 (0, 0))) ∧ (w'.heap[J]? = some (.cells #[.int .i64 aA, .int .i64 aB, .int .i64 aC, .int .i64 aD, .int .i64 aE, .int .i64 aF, .int .i64 aG, .int .i64 aH] 72 (0, 0))) ∧ (w'.heap[aI]? = some (.cells #[.slice aM O.length ay, .slice aN T.length az] 34 (0, 0))) ∧ (w'.heap[aO]? = some (.cells #[.slice af al.length ag, .slice ah ap.length ai] 34 (0, 0))) ∧ (w'.heap[s_.2.2]? = some (.cells #[.slice none 0 0, .slice none 0 0] 34 (0, 0))) ∧ (w.heap.size ≤ s_.2.2) ∧ (w.heap.size ≤ s_.2.2) ∧ (be ≠ s_.2.2) ∧ (s_.2.2 ≠ be) ∧ (J ≠ s_.2.2) ∧ (s_.2.2 ≠ J) ∧ (aI ≠ s_.2.2) ∧ (s_.2.2 ≠ aI) ∧ (aO ≠ s_.2.2) ∧ (s_.2.2 ≠ aO) ∧ (Below w.heap.size w w')) ?_ ?_
  rotate_left
  ·intro hCont
   refine two_ (i := 2) (j := 7) (Ni := some 34) (Nj := some 9) #[true, true, true, false, false, false, false, false, false, false] #[true, true, false, false, false, false, false, true, false, false] rfl rfl rfl rfl (two_of HT_.out (by kernel_rfl)) (by decide) (by decide) (fun K hK => ?_) (fun K hK => ?_)
   ·skip
    refine gs Try.func52 #[.agg #[.int .i64 aA, .int .i64 aB, .int .i64 aC, .int .i64 aD, .int .i64 aE, .int .i64 aF, .int .i64 aG, .int .i64 aH]] ?_
    with_reducible refine (laws_toOp.calls aA aB aC aD aE aF aG aH di dj dk dl dm dp dq dr _ fl.out).mono ?_
    rintro e gK ⟨rfl, hb⟩
    refine ⟨_, rfl, ?_⟩
    replace ad := rb ad hb
    replace ae := rb ae hb
    replace aJ := rb aJ hb
    replace aK := rb aK hb
    replace aZ := rb aZ hb
    replace ba := rb ba hb
    replace z := bb z hb rfl
    replace s := bb s hb rfl
    replace D := bb D hb rfl
    replace G := bb G hb rfl
    replace HB := hs HB hb
    (try clear hb)
    (try clear hb2)
    (try clear hk)
    (try clear hi)
    refine hK.out _ _ ⟨cx G 0, cx G 1, cx s 0, cx s 1, cx s 2, cx s 3, cx s 4, cx s 5, cx s 6, cx s 7⟩ (fun hHeld => ?_)
    clear hK K
    refine nrm 34 ?_
    refine two_ (i := 3) (j := 7) (Ni := some 35) (Nj := some 9) #[true, true, true, true, false, false, false, false, false, false] #[true, true, true, false, false, false, false, true, false, false] rfl rfl rfl rfl (two_of HT_.out (by kernel_rfl)) (by decide) (by decide) (fun K hK => ?_) (fun K hK => ?_)
    ·skip
     refine gs Try.func53 #[.agg #[.slice af al.length ag, .slice ah ap.length ai], .agg #[.int .i64 di, .int .i64 dj, .int .i64 dk, .int .i64 dl, .int .i64 dm, .int .i64 dp, .int .i64 dq, .int .i64 dr]] ?_
     with_reducible refine (impl_GraphDo.calls k _ _ al _ _ ap di dj dk dl dm dp dq dr aj ak bT _ ?av ?aw ?ax ?aL eV.out).mono ?_
     (case av => exact cr aZ)
     (case aw => exact cc aZ)
     (case ax => exact cr ba)
     (case aL => exact cc ba)
     rintro e fz ⟨dg, dh, rfl, X, Y, hb⟩
     refine ⟨_, rfl, ?_⟩
     have bJ := am (Kd.R_lower (Kd.R_new' (Kd.R_new' (Kd.R_new' X (rk ad)) (rk aJ)) (rk aZ)) (below_size (bs HB.out)))
     replace ad := re ad X hb
     replace aJ := re aJ X hb
     replace aZ := re aZ X hb
     have bK := am (Kd.R_lower (Kd.R_new' (Kd.R_new' (Kd.R_new' Y (rk ae)) (rk aK)) (rk ba)) (below_size (bs HB.out)))
     replace ae := re ae Y hb
     replace aK := re aK Y hb
     replace ba := re ba Y hb
     replace z := bb z hb rfl
     replace s := bb s hb rfl
     replace D := bb D hb rfl
     replace G := bb G hb rfl
     replace HB := hs HB hb
     (try clear hb)
     (try clear hb2)
     (try clear hk)
     (try clear hi)
     (try clear X)
     (try clear Y)
     refine hK.out _ _ ⟨cx G 0, cx G 1, cx s 0, cx s 1, cx s 2, cx s 3, cx s 4, cx s 5, cx s 6, cx s 7⟩ (fun hHeld => ?_)
     clear hK K
     refine nrm 35 ?_
     refine pu 4 31 ?_
     refine pu 5 36 ?_
     refine pu 6 37 ?_
     refine on 7 9 (fun K hK => ?_)
     refine box_step ?hg (N := 9) ?hd (cs := #[.slice none 0 0, .slice none 0 0]) (t := 34) ?hr ?_; (case hd => rfl); (case hg => rfl); (case hr => first | (go_simp; done) | (go_simp; rfl))
     intro aP hg fA hbox hb
     replace ad := rb ad hb
     replace ae := rb ae hb
     replace aJ := rb aJ hb
     replace aK := rb aK hb
     replace aZ := rb aZ hb
     replace ba := rb ba hb
     replace bJ := rb bJ hb
     replace bK := rb bK hb
     have I := am hbox
     have d6 := gwb HB hg
     have d7 := gwb HB hg
     replace HB := hs HB hb
     have bW := nq z hg
     have bX := nq' z hg
     replace z := bb z hb rfl
     have bm := nq s hg
     have bY := nq' s hg
     replace s := bb s hb rfl
     have bO := nq D hg
     have bP := nq' D hg
     replace D := bb D hb rfl
     have bL := nq G hg
     have bU := nq' G hg
     replace G := bb G hb rfl
     clear hb hbox hg
     refine hK.out _ _ ⟨cx G 0, cx G 1, cx s 0, cx s 1, cx s 2, cx s 3, cx s 4, cx s 5, cx s 6, cx s 7⟩ (fun hHeld => ?_)
     clear hK K
     refine nrm 9 ?_
     exact norm_ (by simp only [putAll, Act.put, List.setIfInBounds_toArray, List.set_cons_zero, List.set_cons_succ]) (hCont (dg, dh, aP) _ ⟨hHeld, (by (with_reducible repeat (first | apply Kd.R_alloc | apply Kd.R_drewN | apply Kd.R_drew)); exact Kd.R_mono ad.out (fun _ hk => ⟨hk.1.1, ⟨hk.1.2, hk.2⟩⟩)), (by (with_reducible repeat (first | apply Kd.R_alloc | apply Kd.R_drewN | apply Kd.R_drew)); exact Kd.R_mono ae.out (fun _ hk => ⟨hk.1.1, ⟨hk.1.2, hk.2⟩⟩)), (by (with_reducible repeat (first | apply Kd.R_alloc | apply Kd.R_drewN | apply Kd.R_drew)); exact Kd.R_mono aJ.out (fun _ hk => ⟨hk.1.1, ⟨hk.1.2, hk.2⟩⟩)), (by (with_reducible repeat (first | apply Kd.R_alloc | apply Kd.R_drewN | apply Kd.R_drew)); exact Kd.R_mono aK.out (fun _ hk => ⟨hk.1.1, ⟨hk.1.2, hk.2⟩⟩)), (by (with_reducible repeat (first | apply Kd.R_alloc | apply Kd.R_drewN | apply Kd.R_drew)); exact Kd.R_mono aZ.out (fun _ hk => ⟨hk.1.1, ⟨hk.1.2, hk.2⟩⟩)), (by (with_reducible repeat (first | apply Kd.R_alloc | apply Kd.R_drewN | apply Kd.R_drew)); exact Kd.R_mono ba.out (fun _ hk => ⟨hk.1.1, ⟨hk.1.2, hk.2⟩⟩)), (by (with_reducible repeat (first | apply Kd.R_alloc | apply Kd.R_drewN | apply Kd.R_drew)); exact Kd.R_mono bJ.out (fun _ hk => ⟨hk.1.1.2, ⟨hk.1.2, hk.2⟩⟩)), (by (with_reducible repeat (first | apply Kd.R_alloc | apply Kd.R_drewN | apply Kd.R_drew)); exact Kd.R_mono bK.out (fun _ hk => ⟨hk.1.1.2, ⟨hk.1.2, hk.2⟩⟩)), (bf z.out), (bf s.out), (bf D.out), (bf G.out), (bf I.out), d6.out, d7.out, bW.out, bX.out, bm.out, bY.out, bO.out, bP.out, bL.out, bU.out, (bs HB.out)⟩)
    ·skip
     refine box_step ?hg (N := 9) ?hd (cs := #[.slice none 0 0, .slice none 0 0]) (t := 34) ?hr ?_; (case hd => rfl); (case hg => rfl); (case hr => first | (go_simp; done) | (go_simp; rfl))
     intro aP hg fz hbox hb
     replace ad := rb ad hb
     replace ae := rb ae hb
     replace aJ := rb aJ hb
     replace aK := rb aK hb
     replace aZ := rb aZ hb
     replace ba := rb ba hb
     have I := am hbox
     have d6 := gwb HB hg
     have d7 := gwb HB hg
     replace HB := hs HB hb
     have bW := nq z hg
     have bX := nq' z hg
     replace z := bb z hb rfl
     have bm := nq s hg
     have bY := nq' s hg
     replace s := bb s hb rfl
     have bO := nq D hg
     have bP := nq' D hg
     replace D := bb D hb rfl
     have bL := nq G hg
     have bU := nq' G hg
     replace G := bb G hb rfl
     clear hb hbox hg
     refine hK.out _ _ ⟨cx G 0, cx G 1, cx s 0, cx s 1, cx s 2, cx s 3, cx s 4, cx s 5, cx s 6, cx s 7⟩ (fun hHeld => ?_)
     clear hK K
     refine nrm 9 ?_
     refine on 3 35 (fun K hK => ?_)
     refine gs Try.func53 #[.agg #[.slice af al.length ag, .slice ah ap.length ai], .agg #[.int .i64 di, .int .i64 dj, .int .i64 dk, .int .i64 dl, .int .i64 dm, .int .i64 dp, .int .i64 dq, .int .i64 dr]] ?_
     with_reducible refine (impl_GraphDo.calls k _ _ al _ _ ap di dj dk dl dm dp dq dr aj ak bT _ ?av ?aw ?ax ?aL eV.out).mono ?_
     (case av => exact cr aZ)
     (case aw => exact cc aZ)
     (case ax => exact cr ba)
     (case aL => exact cc ba)
     rintro e fA ⟨dg, dh, rfl, X, Y, hb⟩
     refine ⟨_, rfl, ?_⟩
     have bJ := am (Kd.R_lower (Kd.R_new' (Kd.R_new' (Kd.R_new' X (rk ad)) (rk aJ)) (rk aZ)) (below_size (bs HB.out)))
     replace ad := re ad X hb
     replace aJ := re aJ X hb
     replace aZ := re aZ X hb
     have bK := am (Kd.R_lower (Kd.R_new' (Kd.R_new' (Kd.R_new' Y (rk ae)) (rk aK)) (rk ba)) (below_size (bs HB.out)))
     replace ae := re ae Y hb
     replace aK := re aK Y hb
     replace ba := re ba Y hb
     replace z := bb z hb rfl
     replace s := bb s hb rfl
     replace D := bb D hb rfl
     replace G := bb G hb rfl
     replace I := bb I hb rfl
     replace HB := hs HB hb
     (try clear hb)
     (try clear hb2)
     (try clear hk)
     (try clear hi)
     (try clear X)
     (try clear Y)
     refine hK.out _ _ ⟨cx G 0, cx G 1, cx s 0, cx s 1, cx s 2, cx s 3, cx s 4, cx s 5, cx s 6, cx s 7⟩ (fun hHeld => ?_)
     clear hK K
     refine nrm 35 ?_
     refine pu 4 31 ?_
     refine pu 5 36 ?_
     refine pu 6 37 ?_
     exact norm_ (by simp only [putAll, Act.put, List.setIfInBounds_toArray, List.set_cons_zero, List.set_cons_succ]) (hCont (dg, dh, aP) _ ⟨hHeld, (by (with_reducible repeat (first | apply Kd.R_alloc | apply Kd.R_drewN | apply Kd.R_drew)); exact Kd.R_mono ad.out (fun _ hk => ⟨hk.1.1, ⟨hk.1.2, hk.2⟩⟩)), (by (with_reducible repeat (first | apply Kd.R_alloc | apply Kd.R_drewN | apply Kd.R_drew)); exact Kd.R_mono ae.out (fun _ hk => ⟨hk.1.1, ⟨hk.1.2, hk.2⟩⟩)), (by (with_reducible repeat (first | apply Kd.R_alloc | apply Kd.R_drewN | apply Kd.R_drew)); exact Kd.R_mono aJ.out (fun _ hk => ⟨hk.1.1, ⟨hk.1.2, hk.2⟩⟩)), (by (with_reducible repeat (first | apply Kd.R_alloc | apply Kd.R_drewN | apply Kd.R_drew)); exact Kd.R_mono aK.out (fun _ hk => ⟨hk.1.1, ⟨hk.1.2, hk.2⟩⟩)), (by (with_reducible repeat (first | apply Kd.R_alloc | apply Kd.R_drewN | apply Kd.R_drew)); exact Kd.R_mono aZ.out (fun _ hk => ⟨hk.1.1, ⟨hk.1.2, hk.2⟩⟩)), (by (with_reducible repeat (first | apply Kd.R_alloc | apply Kd.R_drewN | apply Kd.R_drew)); exact Kd.R_mono ba.out (fun _ hk => ⟨hk.1.1, ⟨hk.1.2, hk.2⟩⟩)), (by (with_reducible repeat (first | apply Kd.R_alloc | apply Kd.R_drewN | apply Kd.R_drew)); exact Kd.R_mono bJ.out (fun _ hk => ⟨hk.1.1.2, ⟨hk.1.2, hk.2⟩⟩)), (by (with_reducible repeat (first | apply Kd.R_alloc | apply Kd.R_drewN | apply Kd.R_drew)); exact Kd.R_mono bK.out (fun _ hk => ⟨hk.1.1.2, ⟨hk.1.2, hk.2⟩⟩)), (bf z.out), (bf s.out), (bf D.out), (bf G.out), (bf I.out), d6.out, d7.out, bW.out, bX.out, bm.out, bY.out, bO.out, bP.out, bL.out, bU.out, (bs HB.out)⟩)
   ·skip
    refine box_step ?hg (N := 9) ?hd (cs := #[.slice none 0 0, .slice none 0 0]) (t := 34) ?hr ?_; (case hd => rfl); (case hg => rfl); (case hr => first | (go_simp; done) | (go_simp; rfl))
    intro aP hg gK hbox hb
    replace ad := rb ad hb
    replace ae := rb ae hb
    replace aJ := rb aJ hb
    replace aK := rb aK hb
    replace aZ := rb aZ hb
    replace ba := rb ba hb
    have I := am hbox
    have d6 := gwb HB hg
    have d7 := gwb HB hg
    replace HB := hs HB hb
    have bW := nq z hg
    have bX := nq' z hg
    replace z := bb z hb rfl
    have bm := nq s hg
    have bY := nq' s hg
    replace s := bb s hb rfl
    have bO := nq D hg
    have bP := nq' D hg
    replace D := bb D hb rfl
    have bL := nq G hg
    have bU := nq' G hg
    replace G := bb G hb rfl
    clear hb hbox hg
    refine hK.out _ _ ⟨cx G 0, cx G 1, cx s 0, cx s 1, cx s 2, cx s 3, cx s 4, cx s 5, cx s 6, cx s 7⟩ (fun hHeld => ?_)
    clear hK K
    refine nrm 9 ?_
    refine on 2 34 (fun K hK => ?_)
    refine gs Try.func52 #[.agg #[.int .i64 aA, .int .i64 aB, .int .i64 aC, .int .i64 aD, .int .i64 aE, .int .i64 aF, .int .i64 aG, .int .i64 aH]] ?_
    with_reducible refine (laws_toOp.calls aA aB aC aD aE aF aG aH di dj dk dl dm dp dq dr _ fl.out).mono ?_
    rintro e fz ⟨rfl, hb⟩
    refine ⟨_, rfl, ?_⟩
    replace ad := rb ad hb
    replace ae := rb ae hb
    replace aJ := rb aJ hb
    replace aK := rb aK hb
    replace aZ := rb aZ hb
    replace ba := rb ba hb
    replace z := bb z hb rfl
    replace s := bb s hb rfl
    replace D := bb D hb rfl
    replace G := bb G hb rfl
    replace I := bb I hb rfl
    replace HB := hs HB hb
    (try clear hb)
    (try clear hb2)
    (try clear hk)
    (try clear hi)
    refine hK.out _ _ ⟨cx G 0, cx G 1, cx s 0, cx s 1, cx s 2, cx s 3, cx s 4, cx s 5, cx s 6, cx s 7⟩ (fun hHeld => ?_)
    clear hK K
    refine nrm 34 ?_
    refine on 3 35 (fun K hK => ?_)
    refine gs Try.func53 #[.agg #[.slice af al.length ag, .slice ah ap.length ai], .agg #[.int .i64 di, .int .i64 dj, .int .i64 dk, .int .i64 dl, .int .i64 dm, .int .i64 dp, .int .i64 dq, .int .i64 dr]] ?_
    with_reducible refine (impl_GraphDo.calls k _ _ al _ _ ap di dj dk dl dm dp dq dr aj ak bT _ ?av ?aw ?ax ?aL eV.out).mono ?_
    (case av => exact cr aZ)
    (case aw => exact cc aZ)
    (case ax => exact cr ba)
    (case aL => exact cc ba)
    rintro e fA ⟨dg, dh, rfl, X, Y, hb⟩
    refine ⟨_, rfl, ?_⟩
    have bJ := am (Kd.R_lower (Kd.R_new' (Kd.R_new' (Kd.R_new' X (rk ad)) (rk aJ)) (rk aZ)) (below_size (bs HB.out)))
    replace ad := re ad X hb
    replace aJ := re aJ X hb
    replace aZ := re aZ X hb
    have bK := am (Kd.R_lower (Kd.R_new' (Kd.R_new' (Kd.R_new' Y (rk ae)) (rk aK)) (rk ba)) (below_size (bs HB.out)))
    replace ae := re ae Y hb
    replace aK := re aK Y hb
    replace ba := re ba Y hb
    replace z := bb z hb rfl
    replace s := bb s hb rfl
    replace D := bb D hb rfl
    replace G := bb G hb rfl
    replace I := bb I hb rfl
    replace HB := hs HB hb
    (try clear hb)
    (try clear hb2)
    (try clear hk)
    (try clear hi)
    (try clear X)
    (try clear Y)
    refine hK.out _ _ ⟨cx G 0, cx G 1, cx s 0, cx s 1, cx s 2, cx s 3, cx s 4, cx s 5, cx s 6, cx s 7⟩ (fun hHeld => ?_)
    clear hK K
    refine nrm 35 ?_
    refine pu 4 31 ?_
    refine pu 5 36 ?_
    refine pu 6 37 ?_
    exact norm_ (by simp only [putAll, Act.put, List.setIfInBounds_toArray, List.set_cons_zero, List.set_cons_succ]) (hCont (dg, dh, aP) _ ⟨hHeld, (by (with_reducible repeat (first | apply Kd.R_alloc | apply Kd.R_drewN | apply Kd.R_drew)); exact Kd.R_mono ad.out (fun _ hk => ⟨hk.1.1, ⟨hk.1.2, hk.2⟩⟩)), (by (with_reducible repeat (first | apply Kd.R_alloc | apply Kd.R_drewN | apply Kd.R_drew)); exact Kd.R_mono ae.out (fun _ hk => ⟨hk.1.1, ⟨hk.1.2, hk.2⟩⟩)), (by (with_reducible repeat (first | apply Kd.R_alloc | apply Kd.R_drewN | apply Kd.R_drew)); exact Kd.R_mono aJ.out (fun _ hk => ⟨hk.1.1, ⟨hk.1.2, hk.2⟩⟩)), (by (with_reducible repeat (first | apply Kd.R_alloc | apply Kd.R_drewN | apply Kd.R_drew)); exact Kd.R_mono aK.out (fun _ hk => ⟨hk.1.1, ⟨hk.1.2, hk.2⟩⟩)), (by (with_reducible repeat (first | apply Kd.R_alloc | apply Kd.R_drewN | apply Kd.R_drew)); exact Kd.R_mono aZ.out (fun _ hk => ⟨hk.1.1, ⟨hk.1.2, hk.2⟩⟩)), (by (with_reducible repeat (first | apply Kd.R_alloc | apply Kd.R_drewN | apply Kd.R_drew)); exact Kd.R_mono ba.out (fun _ hk => ⟨hk.1.1, ⟨hk.1.2, hk.2⟩⟩)), (by (with_reducible repeat (first | apply Kd.R_alloc | apply Kd.R_drewN | apply Kd.R_drew)); exact Kd.R_mono bJ.out (fun _ hk => ⟨hk.1.1.2, ⟨hk.1.2, hk.2⟩⟩)), (by (with_reducible repeat (first | apply Kd.R_alloc | apply Kd.R_drewN | apply Kd.R_drew)); exact Kd.R_mono bK.out (fun _ hk => ⟨hk.1.1.2, ⟨hk.1.2, hk.2⟩⟩)), (bf z.out), (bf s.out), (bf D.out), (bf G.out), (bf I.out), d6.out, d7.out, bW.out, bX.out, bm.out, bY.out, bO.out, bP.out, bL.out, bU.out, (bs HB.out)⟩)
  rintro ⟨dg, dh, aP⟩ bn ⟨hS_, dE, dF, dG, dH, dI, dJ, dK, dL, dM, dN, dO, dP, dQ, dR, ed, ee, ef, eg, eh, ei, ej, ek, el, em⟩
  have co : Aside0 (Kd.R k36 36 bn w.heap.size (fun k_ => some k_ ≠ (.slice aM O.length ay : Value).ownBlock ∧ some k_ ≠ (.slice af al.length ag : Value).ownBlock ∧ some k_ ≠ (dg : Value).ownBlock) bH bF) := ⟨dE⟩
  have cp : Aside0 (Kd.R k56 56 bn w.heap.size (fun k_ => some k_ ≠ (.slice aN T.length az : Value).ownBlock ∧ some k_ ≠ (.slice ah ap.length ai : Value).ownBlock ∧ some k_ ≠ (dh : Value).ownBlock) bI bG) := ⟨dF⟩
  have ct : Aside0 (Kd.R k36 36 bn w.heap.size (fun k_ => some k_ ≠ (bH : Value).ownBlock ∧ some k_ ≠ (.slice af al.length ag : Value).ownBlock ∧ some k_ ≠ (dg : Value).ownBlock) (.slice aM O.length ay) O) := ⟨dG⟩
  have cu : Aside0 (Kd.R k56 56 bn w.heap.size (fun k_ => some k_ ≠ (bI : Value).ownBlock ∧ some k_ ≠ (.slice ah ap.length ai : Value).ownBlock ∧ some k_ ≠ (dh : Value).ownBlock) (.slice aN T.length az) T) := ⟨dH⟩
  have cv : Aside0 (Kd.R k36 36 bn w.heap.size (fun k_ => some k_ ≠ (bH : Value).ownBlock ∧ some k_ ≠ (.slice aM O.length ay : Value).ownBlock ∧ some k_ ≠ (dg : Value).ownBlock) (.slice af al.length ag) al) := ⟨dI⟩
  have cy : Aside0 (Kd.R k56 56 bn w.heap.size (fun k_ => some k_ ≠ (bI : Value).ownBlock ∧ some k_ ≠ (.slice aN T.length az : Value).ownBlock ∧ some k_ ≠ (dh : Value).ownBlock) (.slice ah ap.length ai) ap) := ⟨dJ⟩
  have cz : Aside0 (Kd.R k36 36 bn w.heap.size (fun k_ => some k_ ≠ (bH : Value).ownBlock ∧ some k_ ≠ (.slice aM O.length ay : Value).ownBlock ∧ some k_ ≠ (.slice af al.length ag : Value).ownBlock) dg aj) := ⟨dK⟩
  have cA : Aside0 (Kd.R k56 56 bn w.heap.size (fun k_ => some k_ ≠ (bI : Value).ownBlock ∧ some k_ ≠ (.slice aN T.length az : Value).ownBlock ∧ some k_ ≠ (.slice ah ap.length ai : Value).ownBlock) dh ak) := ⟨dL⟩
  have cB : Aside0 (bn.heap[be]? = some (.cells #[.slice bg ar.length bh, .slice bi au.length bj] 25 (0, 0))) := ⟨dM⟩
  have cC : Aside0 (bn.heap[J]? = some (.cells #[.int .i64 aA, .int .i64 aB, .int .i64 aC, .int .i64 aD, .int .i64 aE, .int .i64 aF, .int .i64 aG, .int .i64 aH] 72 (0, 0))) := ⟨dN⟩
  have cD : Aside0 (bn.heap[aI]? = some (.cells #[.slice aM O.length ay, .slice aN T.length az] 34 (0, 0))) := ⟨dO⟩
  have dS : Aside0 (bn.heap[aO]? = some (.cells #[.slice af al.length ag, .slice ah ap.length ai] 34 (0, 0))) := ⟨dP⟩
  have dT : Aside0 (bn.heap[aP]? = some (.cells #[.slice none 0 0, .slice none 0 0] 34 (0, 0))) := ⟨dQ⟩
  have dU : Ge w aP := ⟨dR⟩
  have en : Ge w aP := ⟨ed⟩
  have eo : Nq be aP := ⟨ee⟩
  have ep : Nq aP be := ⟨ef⟩
  have eq : Nq J aP := ⟨eg⟩
  have er : Nq aP J := ⟨eh⟩
  have es : Nq aI aP := ⟨ei⟩
  have et : Nq aP aI := ⟨ej⟩
  have eu : Nq aO aP := ⟨ek⟩
  have ev : Nq aP aO := ⟨el⟩
  have ew : Aside0 (Below w.heap.size w bn) := ⟨em⟩
  clear ad
  clear ae
  clear aJ
  clear aK
  clear aZ
  clear ba
  clear z
  clear s
  clear D
  clear G
  clear HB
  clear dE dF dG dH dI dJ dK dL dM dN dO dP dQ dR ed ee ef eg eh ei ej ek el em
  have ad := co
  have ae := cp
  have aJ := ct
  have aK := cu
  have aZ := cv
  have ba := cy
  have bJ := cz
  have bK := cA
  have z := cB
  have s := cC
  have D := cD
  have G := dS
  have I := dT
  have d6 := dU
  have d7 := en
  have bW := eo
  have bX := ep
  have bm := eq
  have bY := er
  have bO := es
  have bP := et
  have bL := eu
  have bU := ev
  have HB := ew
  clear co cp ct cu cv cy cz cA cB cC cD dS dT dU en eo ep eq er es et eu ev ew
  have hHeld : bn.cell? ⟨aO, 0, none⟩ = some (.slice af al.length ag) ∧ bn.cell? ⟨aO, 1, none⟩ = some (.slice ah ap.length ai) ∧ bn.cell? ⟨J, 0, none⟩ = some (.int .i64 aA) ∧ bn.cell? ⟨J, 1, none⟩ = some (.int .i64 aB) ∧ bn.cell? ⟨J, 2, none⟩ = some (.int .i64 aC) ∧ bn.cell? ⟨J, 3, none⟩ = some (.int .i64 aD) ∧ bn.cell? ⟨J, 4, none⟩ = some (.int .i64 aE) ∧ bn.cell? ⟨J, 5, none⟩ = some (.int .i64 aF) ∧ bn.cell? ⟨J, 6, none⟩ = some (.int .i64 aG) ∧ bn.cell? ⟨J, 7, none⟩ = some (.int .i64 aH) := hS_
  obtain ⟨aV, aQ, fB⟩ := Kd.R_slice bJ.out
  (first | subst fB | (injection fB with an aS ao; have aT := an.symm; have aU := ao.symm; clear an aS ao; subst aT; subst aU))
  obtain ⟨aW, aR, fC⟩ := Kd.R_slice bK.out
  (first | subst fC | (injection fC with an aS ao; have aT := an.symm; have aU := ao.symm; clear an aS ao; subst aT; subst aU))
  refine norm_ (a' := ?_) ?_ ?_
  rotate_left
  ·simp only [putAll, Act.put, List.setIfInBounds_toArray, List.set_cons_zero, List.set_cons_succ]
   rfl
  refine on0 8 (fun K hK => ?_)
  have iU : bn.cell? ⟨aP, 0, none⟩ = some (.slice none 0 0) := cx I 0
  have iV := blk_frozen I.out 0
  have iW := bW.out
  have iX := bm.out
  have iY := bO.out
  have iZ := bL.out
  have i0 := bX.out
  have i1 := bY.out
  have i2 := bP.out
  have i3 := bU.out
  have i4 : bn.cell? ⟨aP, 1, none⟩ = some (.slice none 0 0) := cx I 1
  have i5 := blk_frozen I.out 1
  have i6 := bW.out
  have i7 := bm.out
  have i8 := bO.out
  have i9 := bL.out
  have ja := bX.out
  have jb := bY.out
  have jc := bP.out
  have jd := bU.out
  refine sk ?_
  refine hK.out _ _ ⟨((cell_far (p := ⟨aP, _, none⟩) bL.out _).trans (((cell_far (p := ⟨aP, _, none⟩) bL.out _).trans (hHeld.1)))), ((cell_far (p := ⟨aP, _, none⟩) bL.out _).trans (((cell_far (p := ⟨aP, _, none⟩) bL.out _).trans (hHeld.2.1)))), ((cell_far (p := ⟨aP, _, none⟩) bm.out _).trans (((cell_far (p := ⟨aP, _, none⟩) bm.out _).trans (hHeld.2.2.1)))), ((cell_far (p := ⟨aP, _, none⟩) bm.out _).trans (((cell_far (p := ⟨aP, _, none⟩) bm.out _).trans (hHeld.2.2.2.1)))), ((cell_far (p := ⟨aP, _, none⟩) bm.out _).trans (((cell_far (p := ⟨aP, _, none⟩) bm.out _).trans (hHeld.2.2.2.2.1)))), ((cell_far (p := ⟨aP, _, none⟩) bm.out _).trans (((cell_far (p := ⟨aP, _, none⟩) bm.out _).trans (hHeld.2.2.2.2.2.1)))), ((cell_far (p := ⟨aP, _, none⟩) bm.out _).trans (((cell_far (p := ⟨aP, _, none⟩) bm.out _).trans (hHeld.2.2.2.2.2.2.1)))), ((cell_far (p := ⟨aP, _, none⟩) bm.out _).trans (((cell_far (p := ⟨aP, _, none⟩) bm.out _).trans (hHeld.2.2.2.2.2.2.2.1)))), ((cell_far (p := ⟨aP, _, none⟩) bm.out _).trans (((cell_far (p := ⟨aP, _, none⟩) bm.out _).trans (hHeld.2.2.2.2.2.2.2.2.1)))), ((cell_far (p := ⟨aP, _, none⟩) bm.out _).trans (((cell_far (p := ⟨aP, _, none⟩) bm.out _).trans (hHeld.2.2.2.2.2.2.2.2.2))))⟩ (fun hHeld => ?_)
  clear hK K
  refine pu 9 10 ?_
  refine dn ?_
  go_upto_region 8 with (fail)
  go_cut [46] (fun gL wc => ∃ (kq : Nat) (eI : Bool), gL = .bool eI ∧ Aside0 (laws_FnExactGraphDo.j0 kq bt bT eI ar au aA aB aC aD aE aF aG aH O T al ap aj ak = some r) ∧ Aside0 (kq ≤ k) ∧ Aside0 (Kd.R k36 36 wc w.heap.size (fun k_ => some k_ ≠ ((.slice af al.length ag) : Value).ownBlock ∧ some k_ ≠ ((.slice aV aj.length aQ) : Value).ownBlock) (.slice aM O.length ay) O) ∧ Aside0 (Kd.R k56 56 wc w.heap.size (fun k_ => some k_ ≠ ((.slice ah ap.length ai) : Value).ownBlock ∧ some k_ ≠ ((.slice aW ak.length aR) : Value).ownBlock) (.slice aN T.length az) T) ∧ Aside0 (Kd.R k36 36 wc w.heap.size (fun k_ => some k_ ≠ ((.slice aM O.length ay) : Value).ownBlock ∧ some k_ ≠ ((.slice aV aj.length aQ) : Value).ownBlock) (.slice af al.length ag) al) ∧ Aside0 (Kd.R k56 56 wc w.heap.size (fun k_ => some k_ ≠ ((.slice aN T.length az) : Value).ownBlock ∧ some k_ ≠ ((.slice aW ak.length aR) : Value).ownBlock) (.slice ah ap.length ai) ap) ∧ Aside0 (Kd.R k36 36 wc w.heap.size (fun k_ => some k_ ≠ ((.slice aM O.length ay) : Value).ownBlock ∧ some k_ ≠ ((.slice af al.length ag) : Value).ownBlock) (.slice aV aj.length aQ) aj) ∧ Aside0 (Kd.R k56 56 wc w.heap.size (fun k_ => some k_ ≠ ((.slice aN T.length az) : Value).ownBlock ∧ some k_ ≠ ((.slice ah ap.length ai) : Value).ownBlock) (.slice aW ak.length aR) ak) ∧ Aside0 (wc.heap[be]? = some (.cells #[(.slice bg ar.length bh), (.slice bi au.length bj)] 25 (0, 0))) ∧ Aside0 (wc.heap[J]? = some (.cells #[.int .i64 aA, .int .i64 aB, .int .i64 aC, .int .i64 aD, .int .i64 aE, .int .i64 aF, .int .i64 aG, .int .i64 aH] 72 (0, 0))) ∧ Aside0 (wc.heap[aI]? = some (.cells #[(.slice aM O.length ay), (.slice aN T.length az)] 34 (0, 0))) ∧ Aside0 (wc.heap[aO]? = some (.cells #[(.slice af al.length ag), (.slice ah ap.length ai)] 34 (0, 0))) ∧ Aside0 (wc.heap[aP]? = some (.cells #[(.slice aV aj.length aQ), (.slice aW ak.length aR)] 34 (0, 0))) ∧ Aside0 (Below w.heap.size w wc))
  case first =>
   have H := eW.out
   clear eW
   replace H := Option.bind_eq_some_iff.mp H
   obtain ⟨gM, fD, H⟩ := H
   try dsimp -simprocs only at H
   have fE := am fD
   clear fD
   by_cases d8 : gM = true
   ·subst d8
    replace H : (laws_FnExactGraphDo.j0 k bt bT (bT != bt) ar au aA aB aC aD aE aF aG aH O T al ap aj ak) = some r := by rw [if_pos rfl] at H; exact H
    have H' := am H
    clear H
    have je := bX.out
    have jf := bW.out
    have jg := bY.out
    have jh := bm.out
    have ji := bP.out
    have jj := bO.out
    have jk := bU.out
    have jl := bL.out
    obtain ⟨fF, fG⟩ := bc2 (w := bn) I.out
    have fH := blk_frozen I.out
    have jm := bM.out
    have jn := bz.out
    have jo := bN.out
    have jp := bl.out
    have jq := dV.out
    have jr := dW.out
    obtain ⟨fI, fJ⟩ := bc2 (w := bn) D.out
    have fK := blk_frozen D.out
    go_wp2_with (first | ((with_reducible refine gc 22 rfl ?_); refine gl 40 Try.func22 #[.agg #[.slice aV aj.length aQ, .slice aW ak.length aR], .agg #[.slice aM O.length ay, .slice aN T.length az]] ?_; (with_reducible refine (laws_eqGraph.calls k _ _ aj _ _ ak _ _ O _ _ T true _ ?av ?aw ?ax ?aL ?b2 ?b3 ?b4 ?b5 fE.out).mono ?_); (case av => refine (Kd.R_reads' (e := 36) (base := w.heap.size) (ok := fun k_ => (some k_ ≠ (bH : Value).ownBlock ∧ (some k_ ≠ (.slice aM O.length ay : Value).ownBlock ∧ some k_ ≠ (.slice af al.length ag : Value).ownBlock))) (n := aj.length) (c := aQ) ?_).2.2; exact (rt bJ.out I.out (by decide))); (case aw => exact cc bJ); (case ax => refine (Kd.R_reads' (e := 56) (base := w.heap.size) (ok := fun k_ => (some k_ ≠ (bI : Value).ownBlock ∧ (some k_ ≠ (.slice aN T.length az : Value).ownBlock ∧ some k_ ≠ (.slice ah ap.length ai : Value).ownBlock))) (n := ak.length) (c := aR) ?_).2.2; exact (rt bK.out I.out (by decide))); (case aL => exact cc bK); (case b2 => refine (Kd.R_reads' (e := 36) (base := w.heap.size) (ok := fun k_ => (some k_ ≠ (bH : Value).ownBlock ∧ (some k_ ≠ (.slice af al.length ag : Value).ownBlock ∧ some k_ ≠ (.slice aV aj.length aQ : Value).ownBlock))) (n := O.length) (c := ay) ?_).2.2; exact (rt aJ.out I.out (by decide))); (case b3 => exact cc aJ); (case b4 => refine (Kd.R_reads' (e := 56) (base := w.heap.size) (ok := fun k_ => (some k_ ≠ (bI : Value).ownBlock ∧ (some k_ ≠ (.slice ah ap.length ai : Value).ownBlock ∧ some k_ ≠ (.slice aW ak.length aR : Value).ownBlock))) (n := T.length) (c := az) ?_).2.2; exact (rt aK.out I.out (by decide))); (case b5 => exact cc aK); rintro e js ⟨rfl, hb⟩; refine ⟨_, rfl, ?_⟩; replace ad := am (Kd.R_below (rt ad.out I.out (by decide)) hb); replace ae := am (Kd.R_below (rt ae.out I.out (by decide)) hb); replace aJ := am (Kd.R_below (rt aJ.out I.out (by decide)) hb); replace aK := am (Kd.R_below (rt aK.out I.out (by decide)) hb); replace aZ := am (Kd.R_below (rt aZ.out I.out (by decide)) hb); replace ba := am (Kd.R_below (rt ba.out I.out (by decide)) hb); replace bJ := am (Kd.R_below (rt bJ.out I.out (by decide)) hb); replace bK := am (Kd.R_below (rt bK.out I.out (by decide)) hb); replace z := am (blk_below (g := be) (o := .cells #[.slice bg ar.length bh, .slice bi au.length bj] 25 (0, 0)) (bf z.out) hb); replace s := am (blk_below (g := J) (o := .cells #[.int .i64 aA, .int .i64 aB, .int .i64 aC, .int .i64 aD, .int .i64 aE, .int .i64 aF, .int .i64 aG, .int .i64 aH] 72 (0, 0)) (bf s.out) hb); replace D := am (blk_below (g := aI) (o := .cells #[.slice aM O.length ay, .slice aN T.length az] 34 (0, 0)) (bf D.out) hb); replace G := am (blk_below (g := aO) (o := .cells #[.slice af al.length ag, .slice ah ap.length ai] 34 (0, 0)) (bf G.out) hb); replace I := bq #[.slice aV aj.length aQ, .slice aW ak.length aR] I hb; replace HB := hs HB hb; (try clear hb); (try clear hb2); (try clear hk); (try clear hi)))
    go_meet
    case rel => exact ⟨_, ((bT != bt)), eqs, H', ⟨by first | omega | exact Nat.le_refl _⟩, ⟨by (with_reducible repeat (first | apply Kd.R_alloc | apply Kd.R_drewN | apply Kd.R_drew)); exact Kd.R_mono aJ.out (fun _ hk => ⟨hk.2.1, hk.2.2⟩)⟩, ⟨by (with_reducible repeat (first | apply Kd.R_alloc | apply Kd.R_drewN | apply Kd.R_drew)); exact Kd.R_mono aK.out (fun _ hk => ⟨hk.2.1, hk.2.2⟩)⟩, ⟨by (with_reducible repeat (first | apply Kd.R_alloc | apply Kd.R_drewN | apply Kd.R_drew)); exact Kd.R_mono aZ.out (fun _ hk => ⟨hk.2.1, hk.2.2⟩)⟩, ⟨by (with_reducible repeat (first | apply Kd.R_alloc | apply Kd.R_drewN | apply Kd.R_drew)); exact Kd.R_mono ba.out (fun _ hk => ⟨hk.2.1, hk.2.2⟩)⟩, ⟨by (with_reducible repeat (first | apply Kd.R_alloc | apply Kd.R_drewN | apply Kd.R_drew)); exact Kd.R_mono bJ.out (fun _ hk => ⟨hk.2.1, hk.2.2⟩)⟩, ⟨by (with_reducible repeat (first | apply Kd.R_alloc | apply Kd.R_drewN | apply Kd.R_drew)); exact Kd.R_mono bK.out (fun _ hk => ⟨hk.2.1, hk.2.2⟩)⟩, ⟨bf z.out⟩, ⟨bf s.out⟩, ⟨bf D.out⟩, ⟨bf G.out⟩, ⟨bf I.out⟩, ⟨bs HB.out⟩⟩
   ·replace d8 := Bool.eq_false_iff.mpr d8
    subst d8
    have H1 : (laws_FnExactGraphDo.j0 k bt bT true ar au aA aB aC aD aE aF aG aH O T al ap aj ak) = some r := by rw [if_neg (show ¬ (false = true) by decide)] at H; exact H
    clear H
    have H := H1
    clear H1
    have H' := am H
    clear H
    have jt := bX.out
    have ju := bW.out
    have jv := bY.out
    have jw := bm.out
    have jx := bP.out
    have jy := bO.out
    have jz := bU.out
    have jA := bL.out
    obtain ⟨fL, fM⟩ := bc2 (w := bn) I.out
    have fN := blk_frozen I.out
    have jB := bM.out
    have jC := bz.out
    have jD := bN.out
    have jE := bl.out
    have jF := dV.out
    have jG := dW.out
    obtain ⟨fO, fP⟩ := bc2 (w := bn) D.out
    have fQ := blk_frozen D.out
    go_wp2_with (first | ((with_reducible refine gc 22 rfl ?_); refine gl 40 Try.func22 #[.agg #[.slice aV aj.length aQ, .slice aW ak.length aR], .agg #[.slice aM O.length ay, .slice aN T.length az]] ?_; (with_reducible refine (laws_eqGraph.calls k _ _ aj _ _ ak _ _ O _ _ T false _ ?av ?aw ?ax ?aL ?b2 ?b3 ?b4 ?b5 fE.out).mono ?_); (case av => refine (Kd.R_reads' (e := 36) (base := w.heap.size) (ok := fun k_ => (some k_ ≠ (bH : Value).ownBlock ∧ (some k_ ≠ (.slice aM O.length ay : Value).ownBlock ∧ some k_ ≠ (.slice af al.length ag : Value).ownBlock))) (n := aj.length) (c := aQ) ?_).2.2; exact (rt bJ.out I.out (by decide))); (case aw => exact cc bJ); (case ax => refine (Kd.R_reads' (e := 56) (base := w.heap.size) (ok := fun k_ => (some k_ ≠ (bI : Value).ownBlock ∧ (some k_ ≠ (.slice aN T.length az : Value).ownBlock ∧ some k_ ≠ (.slice ah ap.length ai : Value).ownBlock))) (n := ak.length) (c := aR) ?_).2.2; exact (rt bK.out I.out (by decide))); (case aL => exact cc bK); (case b2 => refine (Kd.R_reads' (e := 36) (base := w.heap.size) (ok := fun k_ => (some k_ ≠ (bH : Value).ownBlock ∧ (some k_ ≠ (.slice af al.length ag : Value).ownBlock ∧ some k_ ≠ (.slice aV aj.length aQ : Value).ownBlock))) (n := O.length) (c := ay) ?_).2.2; exact (rt aJ.out I.out (by decide))); (case b3 => exact cc aJ); (case b4 => refine (Kd.R_reads' (e := 56) (base := w.heap.size) (ok := fun k_ => (some k_ ≠ (bI : Value).ownBlock ∧ (some k_ ≠ (.slice ah ap.length ai : Value).ownBlock ∧ some k_ ≠ (.slice aW ak.length aR : Value).ownBlock))) (n := T.length) (c := az) ?_).2.2; exact (rt aK.out I.out (by decide))); (case b5 => exact cc aK); rintro e jH ⟨rfl, hb⟩; refine ⟨_, rfl, ?_⟩; replace ad := am (Kd.R_below (rt ad.out I.out (by decide)) hb); replace ae := am (Kd.R_below (rt ae.out I.out (by decide)) hb); replace aJ := am (Kd.R_below (rt aJ.out I.out (by decide)) hb); replace aK := am (Kd.R_below (rt aK.out I.out (by decide)) hb); replace aZ := am (Kd.R_below (rt aZ.out I.out (by decide)) hb); replace ba := am (Kd.R_below (rt ba.out I.out (by decide)) hb); replace bJ := am (Kd.R_below (rt bJ.out I.out (by decide)) hb); replace bK := am (Kd.R_below (rt bK.out I.out (by decide)) hb); replace z := am (blk_below (g := be) (o := .cells #[.slice bg ar.length bh, .slice bi au.length bj] 25 (0, 0)) (bf z.out) hb); replace s := am (blk_below (g := J) (o := .cells #[.int .i64 aA, .int .i64 aB, .int .i64 aC, .int .i64 aD, .int .i64 aE, .int .i64 aF, .int .i64 aG, .int .i64 aH] 72 (0, 0)) (bf s.out) hb); replace D := am (blk_below (g := aI) (o := .cells #[.slice aM O.length ay, .slice aN T.length az] 34 (0, 0)) (bf D.out) hb); replace G := am (blk_below (g := aO) (o := .cells #[.slice af al.length ag, .slice ah ap.length ai] 34 (0, 0)) (bf G.out) hb); replace I := bq #[.slice aV aj.length aQ, .slice aW ak.length aR] I hb; replace HB := hs HB hb; (try clear hb); (try clear hb2); (try clear hk); (try clear hi)))
    go_meet
    case rel => exact ⟨_, (true), eqs, H', ⟨by first | omega | exact Nat.le_refl _⟩, ⟨by (with_reducible repeat (first | apply Kd.R_alloc | apply Kd.R_drewN | apply Kd.R_drew)); exact Kd.R_mono aJ.out (fun _ hk => ⟨hk.2.1, hk.2.2⟩)⟩, ⟨by (with_reducible repeat (first | apply Kd.R_alloc | apply Kd.R_drewN | apply Kd.R_drew)); exact Kd.R_mono aK.out (fun _ hk => ⟨hk.2.1, hk.2.2⟩)⟩, ⟨by (with_reducible repeat (first | apply Kd.R_alloc | apply Kd.R_drewN | apply Kd.R_drew)); exact Kd.R_mono aZ.out (fun _ hk => ⟨hk.2.1, hk.2.2⟩)⟩, ⟨by (with_reducible repeat (first | apply Kd.R_alloc | apply Kd.R_drewN | apply Kd.R_drew)); exact Kd.R_mono ba.out (fun _ hk => ⟨hk.2.1, hk.2.2⟩)⟩, ⟨by (with_reducible repeat (first | apply Kd.R_alloc | apply Kd.R_drewN | apply Kd.R_drew)); exact Kd.R_mono bJ.out (fun _ hk => ⟨hk.2.1, hk.2.2⟩)⟩, ⟨by (with_reducible repeat (first | apply Kd.R_alloc | apply Kd.R_drewN | apply Kd.R_drew)); exact Kd.R_mono bK.out (fun _ hk => ⟨hk.2.1, hk.2.2⟩)⟩, ⟨bf z.out⟩, ⟨bf s.out⟩, ⟨bf D.out⟩, ⟨bf G.out⟩, ⟨bf I.out⟩, ⟨bs HB.out⟩⟩
  case rest =>
   clear eW
   try clear c2
   try clear p2
   try clear c5
   try clear c6
   try clear c7
   try clear fR
   try clear fS
   try clear fT
   try clear d8
   try clear gN
   try clear gO
   try clear gP
   try clear gQ
   try clear gR
   try clear gS
   try clear gT
   try clear gU
   try clear gV
   try clear gW
   try clear gX
   try clear gY
   try clear gZ
   try clear g0
   try clear fF fG
   try clear fI fJ
   try clear fL fM
   try clear fO fP
   try clear fH
   try clear fK
   try clear fN
   try clear fQ
   obtain ⟨kq, eI, rfl, HA, ex, ab, ac, Z, aa, L, M, z, s, D, G, I, HB⟩ := hcut
   cases kq with
   | zero => exact absurd HA.out (by simp [laws_FnExactGraphDo.j0])
   | succ bD =>
    have H := HA.out
    clear HA
    simp only [laws_FnExactGraphDo.j0] at H
    by_cases ey : eI = true
    ·subst ey
     replace H : (some false) = some r := by rw [if_pos rfl] at H; exact H
     exact absurd (Option.some.inj H) (by rw [hT.out]; decide)
    ·replace ey := Bool.eq_false_iff.mpr ey
     subst ey
     have H1 : ((laws_toGraph.f bD ar au).bind fun fU => ((laws_eqGraph.f bD al ap fU.1 fU.2).bind fun eY => (if eY = true then ((laws_markGraph.f bD al ap 1).bind fun eZ => (if eZ.1 < 0 then (laws_FnExactGraphDo.j1 bD bt true ar au aA aB aC aD aE aF aG aH O T aj ak) else ((laws_eqGraph.f bD aj ak O T).bind fun ez => (if ez = true then (laws_FnExactGraphDo.j1 bD bt (bT != bt) ar au aA aB aC aD aE aF aG aH O T aj ak) else (laws_FnExactGraphDo.j1 bD bt true ar au aA aB aC aD aE aF aG aH O T aj ak))))) else (some false)))) = some r := by rw [if_neg (show ¬ (false = true) by decide)] at H; exact H
     clear H
     have H := H1
     clear H1
     replace H := Option.bind_eq_some_iff.mp H
     obtain ⟨⟨eA, eB⟩, fV, H⟩ := H
     try dsimp -simprocs only at H
     have g1 := am fV
     clear fV
     replace H := Option.bind_eq_some_iff.mp H
     obtain ⟨eY, fW, H⟩ := H
     try dsimp -simprocs only at H
     have g2 := am fW
     clear fW
     by_cases eC : eY = true
     ·subst eC
      replace H : ((laws_markGraph.f bD al ap 1).bind fun eZ => (if eZ.1 < 0 then (laws_FnExactGraphDo.j1 bD bt true ar au aA aB aC aD aE aF aG aH O T aj ak) else ((laws_eqGraph.f bD aj ak O T).bind fun ez => (if ez = true then (laws_FnExactGraphDo.j1 bD bt (bT != bt) ar au aA aB aC aD aE aF aG aH O T aj ak) else (laws_FnExactGraphDo.j1 bD bt true ar au aA aB aC aD aE aF aG aH O T aj ak))))) = some r := by rw [if_pos rfl] at H; exact H
      replace H := Option.bind_eq_some_iff.mp H
      obtain ⟨⟨eJ, bo, br⟩, fX, H⟩ := H
      try dsimp -simprocs only at H
      have g3 := am fX
      clear fX
      have e0 := am H
      clear H
      try go_wp2
      replace ab := rd_ ab
      replace ac := rd_ ac
      replace Z := rd_ Z
      replace aa := rd_ aa
      replace L := rd_ L
      replace M := rd_ M
      replace z := bd z
      replace s := bd s
      replace D := bd D
      replace G := bd G
      replace I := bd I
      replace HB := hd HB
      refine sta 5 (fun w' => w'.cell? ⟨aO, 0, none⟩ = some (.slice af al.length ag) ∧ w'.cell? ⟨aO, 1, none⟩ = some (.slice ah ap.length ai) ∧ w'.cell? ⟨be, 0, none⟩ = some (.slice bg ar.length bh) ∧ w'.cell? ⟨be, 1, none⟩ = some (.slice bi au.length bj)) [] ⟨cx G 0, cx G 1, cx z 0, cx z 1⟩ (fun hHeld => ?_)
      generalize wc.drew = jI at ab ac Z aa L M z s D G I HB hHeld ⊢
      refine tk 0 47 ?_
      refine tk 1 48 ?_
      refine on 2 49 (fun K hK => ?_)
      refine gs Try.func18 #[.agg #[.slice bg ar.length bh, .slice bi au.length bj]] ?_
      with_reducible refine (laws_toGraph.calls bD _ _ ar _ _ au eA eB _ ?av ?aw ?ax ?aL g1.out).mono ?_
      (case av => exact Kd.C_below dv.out (bs HB.out))
      (case aw => exact dw.out)
      (case ax => exact Kd.C_below dx.out (bs HB.out))
      (case aL => exact dy.out)
      rintro e jJ ⟨jK, jL, rfl, X, Y, hb⟩
      refine ⟨_, rfl, ?_⟩
      have cX := am (Kd.R_lower (Kd.R_new' (Kd.R_new' (Kd.R_new' X (rk ab)) (rk Z)) (rk L)) (below_size (bs HB.out)))
      replace ab := re ab X hb
      replace Z := re Z X hb
      replace L := re L X hb
      have cY := am (Kd.R_lower (Kd.R_new' (Kd.R_new' (Kd.R_new' Y (rk ac)) (rk aa)) (rk M)) (below_size (bs HB.out)))
      replace ac := re ac Y hb
      replace aa := re aa Y hb
      replace M := re M Y hb
      replace z := bb z hb rfl
      replace s := bb s hb rfl
      replace D := bb D hb rfl
      replace G := bb G hb rfl
      replace I := bb I hb rfl
      replace HB := hs HB hb
      (try clear hb)
      (try clear hb2)
      (try clear hk)
      (try clear hi)
      (try clear X)
      (try clear Y)
      obtain ⟨e1, e2, fY⟩ := Kd.R_slice cX.out
      (first | subst fY | (injection fY with an aS ao; have aT := an.symm; have aU := ao.symm; clear an aS ao; subst aT; subst aU))
      obtain ⟨e3, e4, fZ⟩ := Kd.R_slice cY.out
      (first | subst fZ | (injection fZ with an aS ao; have aT := an.symm; have aU := ao.symm; clear an aS ao; subst aT; subst aU))
      refine hK.out _ _ ⟨cx G 0, cx G 1, cx z 0, cx z 1⟩ (fun hHeld => ?_)
      clear hK K
      refine nrm 49 ?_
      refine on 3 50 (fun K hK => ?_)
      refine gs Try.func22 #[.agg #[.slice af al.length ag, .slice ah ap.length ai], .agg #[.slice e1 eA.length e2, .slice e3 eB.length e4]] ?_
      with_reducible refine (laws_eqGraph.calls bD _ _ al _ _ ap _ _ eA _ _ eB true _ ?av ?aw ?ax ?aL ?b2 ?b3 ?b4 ?b5 g2.out).mono ?_
      (case av => exact cr Z)
      (case aw => exact cc Z)
      (case ax => exact cr aa)
      (case aL => exact cc aa)
      (case b2 => exact cr cX)
      (case b3 => exact cc cX)
      (case b4 => exact cr cY)
      (case b5 => exact cc cY)
      rintro e g4 ⟨rfl, hb⟩
      refine ⟨_, rfl, ?_⟩
      replace ab := rb ab hb
      replace ac := rb ac hb
      replace Z := rb Z hb
      replace aa := rb aa hb
      replace L := rb L hb
      replace M := rb M hb
      replace cX := rb cX hb
      replace cY := rb cY hb
      replace z := bb z hb rfl
      replace s := bb s hb rfl
      replace D := bb D hb rfl
      replace G := bb G hb rfl
      replace I := bb I hb rfl
      replace HB := hs HB hb
      (try clear hb)
      (try clear hb2)
      (try clear hk)
      (try clear hi)
      refine hK.out _ _ ⟨cx G 0, cx G 1, cx z 0, cx z 1⟩ (fun hHeld => ?_)
      clear hK K
      refine nrm 50 ?_
      refine pu 4 51 ?_
      refine dn ?_
      have jM := fw.out
      have jN := fv.out
      have jO := fy.out
      have jP := fx.out
      have jQ := dW.out
      have jR := dV.out
      have jS := bL.out
      have jT := bU.out
      obtain ⟨g5, g6⟩ := bc2 (w := g4) G.out
      have g7 := blk_frozen G.out
      go_upto_region 14 with (first | ((with_reducible refine gc 23 rfl ?_); refine gl 54 Try.func23 #[.agg #[.slice af al.length ag, .slice ah ap.length ai], .int .i64 1] ?_; (with_reducible refine (laws_markGraph.calls bD (fun k_ => some k_ = (.slice af al.length ag : Value).ownBlock) (.slice af al.length ag) al (fun k_ => some k_ = (.slice ah ap.length ai : Value).ownBlock) (.slice ah ap.length ai) ap 1 eJ bo br w _ ?av ?aw ?ax g3.out).mono ?_); (case av => exact bs HB.out); (case aw => exact Kd.R_tight rfl Z.out); (case ax => exact Kd.R_tight rfl aa.out); rintro e eK ⟨rfl, eD, eE, hb, hkp⟩; refine ⟨_, rfl, ?_⟩; replace ab := am (Kd.R_mono (ok' := fun k_ => some k_ ≠ (.slice af al.length ag : Value).ownBlock ∧ some k_ ≠ (.slice aV aj.length aQ : Value).ownBlock ∧ some k_ ≠ (.slice e1 eA.length e2 : Value).ownBlock) (Kd.R_keptB ((Kd.R_apart' ab.out (Kd.R_typed aa.out) (by decide))) hkp (fun k_ hk_ hs_ => Or.elim hs_ (fun e_ => (hk_.1.1.1) e_) (fun e_ => (hk_.2) e_))) (fun k_ hk_ => ⟨hk_.1.1.1.1, hk_.1.1.1.2, hk_.1.1.2⟩)); replace ac := am (Kd.R_mono (ok' := fun k_ => some k_ ≠ (.slice ah ap.length ai : Value).ownBlock ∧ some k_ ≠ (.slice aW ak.length aR : Value).ownBlock ∧ some k_ ≠ (.slice e3 eB.length e4 : Value).ownBlock) (Kd.R_keptB ((Kd.R_apart' ac.out (Kd.R_typed Z.out) (by decide))) hkp (fun k_ hk_ hs_ => Or.elim hs_ (fun e_ => (hk_.2) e_) (fun e_ => (hk_.1.1.1) e_))) (fun k_ hk_ => ⟨hk_.1.1.1.1, hk_.1.1.1.2, hk_.1.1.2⟩)); replace L := am (Kd.R_mono (ok' := fun k_ => some k_ ≠ (.slice aM O.length ay : Value).ownBlock ∧ some k_ ≠ (.slice af al.length ag : Value).ownBlock ∧ some k_ ≠ (.slice e1 eA.length e2 : Value).ownBlock) (Kd.R_keptB ((Kd.R_apart' L.out (Kd.R_typed aa.out) (by decide))) hkp (fun k_ hk_ hs_ => Or.elim hs_ (fun e_ => (hk_.1.1.2) e_) (fun e_ => (hk_.2) e_))) (fun k_ hk_ => ⟨hk_.1.1.1.1, hk_.1.1.1.2, hk_.1.1.2⟩)); replace M := am (Kd.R_mono (ok' := fun k_ => some k_ ≠ (.slice aN T.length az : Value).ownBlock ∧ some k_ ≠ (.slice ah ap.length ai : Value).ownBlock ∧ some k_ ≠ (.slice e3 eB.length e4 : Value).ownBlock) (Kd.R_keptB ((Kd.R_apart' M.out (Kd.R_typed Z.out) (by decide))) hkp (fun k_ hk_ hs_ => Or.elim hs_ (fun e_ => (hk_.2) e_) (fun e_ => (hk_.1.1.2) e_))) (fun k_ hk_ => ⟨hk_.1.1.1.1, hk_.1.1.1.2, hk_.1.1.2⟩)); replace z := am (blk_kept (bf z.out) hkp (fun hs_ => Or.elim hs_ (fun e_ => (fun e_ => (Kd.R_ne Z.out z.out (by decide)) e_) e_) (fun e_ => (fun e_ => (Kd.R_ne aa.out z.out (by decide)) e_) e_))); replace s := am (blk_kept (bf s.out) hkp (fun hs_ => Or.elim hs_ (fun e_ => (fun e_ => (Kd.R_ne Z.out s.out (by decide)) e_) e_) (fun e_ => (fun e_ => (Kd.R_ne aa.out s.out (by decide)) e_) e_))); replace D := am (blk_kept (bf D.out) hkp (fun hs_ => Or.elim hs_ (fun e_ => (fun e_ => (Kd.R_ne Z.out D.out (by decide)) e_) e_) (fun e_ => (fun e_ => (Kd.R_ne aa.out D.out (by decide)) e_) e_))); replace G := am (blk_kept (bf G.out) hkp (fun hs_ => Or.elim hs_ (fun e_ => (fun e_ => (Kd.R_ne Z.out G.out (by decide)) e_) e_) (fun e_ => (fun e_ => (Kd.R_ne aa.out G.out (by decide)) e_) e_))); replace I := am (blk_kept (bf I.out) hkp (fun hs_ => Or.elim hs_ (fun e_ => (fun e_ => (Kd.R_ne Z.out I.out (by decide)) e_) e_) (fun e_ => (fun e_ => (Kd.R_ne aa.out I.out (by decide)) e_) e_))); replace cX := am (Kd.R_mono (ok' := fun k_ => some k_ ≠ (.slice aM O.length ay : Value).ownBlock ∧ some k_ ≠ (.slice af al.length ag : Value).ownBlock ∧ some k_ ≠ (.slice aV aj.length aQ : Value).ownBlock) (Kd.R_keptB ((Kd.R_apart' cX.out (Kd.R_typed aa.out) (by decide))) hkp (fun k_ hk_ hs_ => Or.elim hs_ (fun e_ => (hk_.1.1.2) e_) (fun e_ => (hk_.2) e_))) (fun k_ hk_ => ⟨hk_.1.1.1.1.2, hk_.1.1.1.2, hk_.1.1.2⟩)); replace aa := am (Kd.R_reok rfl eE (fun k_ e_ => aa.out.1 k_ e_)); replace cY := am (Kd.R_mono (ok' := fun k_ => some k_ ≠ (.slice aN T.length az : Value).ownBlock ∧ some k_ ≠ (.slice ah ap.length ai : Value).ownBlock ∧ some k_ ≠ (.slice aW ak.length aR : Value).ownBlock) (Kd.R_keptB ((Kd.R_apart' cY.out (Kd.R_typed Z.out) (by decide))) hkp (fun k_ hk_ hs_ => Or.elim hs_ (fun e_ => (hk_.2) e_) (fun e_ => (hk_.1.1.2) e_))) (fun k_ hk_ => ⟨hk_.1.1.1.1.2, hk_.1.1.1.2, hk_.1.1.2⟩)); replace Z := am (Kd.R_reok rfl eD (fun k_ e_ => Z.out.1 k_ e_)); replace HB := am hb; (try clear hb hkp); (try clear eD); (try clear eE)))
      (try simp only [Act.put, List.setIfInBounds_toArray, List.set_cons_zero, List.set_cons_succ])
      go_cut [67] (fun g8 wc => ∃ (kq : Nat) (eL : Bool), g8 = .bool eL ∧ Aside0 (laws_FnExactGraphDo.j1 kq bt eL ar au aA aB aC aD aE aF aG aH O T aj ak = some r) ∧ Aside0 (kq ≤ bD) ∧ Aside0 (Kd.R k36 36 wc w.heap.size (fun k_ => some k_ ≠ ((.slice af al.length ag) : Value).ownBlock ∧ some k_ ≠ ((.slice aV aj.length aQ) : Value).ownBlock) (.slice aM O.length ay) O) ∧ Aside0 (Kd.R k56 56 wc w.heap.size (fun k_ => some k_ ≠ ((.slice ah ap.length ai) : Value).ownBlock ∧ some k_ ≠ ((.slice aW ak.length aR) : Value).ownBlock) (.slice aN T.length az) T) ∧ Aside0 (Kd.R k36 36 wc w.heap.size (fun k_ => some k_ ≠ ((.slice aM O.length ay) : Value).ownBlock ∧ some k_ ≠ ((.slice aV aj.length aQ) : Value).ownBlock) (.slice af al.length ag) bo) ∧ Aside0 (Kd.R k56 56 wc w.heap.size (fun k_ => some k_ ≠ ((.slice aN T.length az) : Value).ownBlock ∧ some k_ ≠ ((.slice aW ak.length aR) : Value).ownBlock) (.slice ah ap.length ai) br) ∧ Aside0 (Kd.R k36 36 wc w.heap.size (fun k_ => some k_ ≠ ((.slice aM O.length ay) : Value).ownBlock ∧ some k_ ≠ ((.slice af al.length ag) : Value).ownBlock) (.slice aV aj.length aQ) aj) ∧ Aside0 (Kd.R k56 56 wc w.heap.size (fun k_ => some k_ ≠ ((.slice aN T.length az) : Value).ownBlock ∧ some k_ ≠ ((.slice ah ap.length ai) : Value).ownBlock) (.slice aW ak.length aR) ak) ∧ Aside0 (wc.heap[be]? = some (.cells #[(.slice bg ar.length bh), (.slice bi au.length bj)] 25 (0, 0))) ∧ Aside0 (wc.heap[J]? = some (.cells #[.int .i64 aA, .int .i64 aB, .int .i64 aC, .int .i64 aD, .int .i64 aE, .int .i64 aF, .int .i64 aG, .int .i64 aH] 72 (0, 0))) ∧ Aside0 (wc.heap[aI]? = some (.cells #[(.slice aM O.length ay), (.slice aN T.length az)] 34 (0, 0))) ∧ Aside0 (wc.heap[aO]? = some (.cells #[(.slice af al.length ag), (.slice ah ap.length ai)] 34 (0, 0))) ∧ Aside0 (wc.heap[aP]? = some (.cells #[(.slice aV aj.length aQ), (.slice aW ak.length aR)] 34 (0, 0))) ∧ Aside0 (Below w.heap.size w wc))
      case first =>
       have H := e0.out
       clear e0
       by_cases d3 : eJ < 0
       ·rw [if_pos d3] at H
        have d9 : decide (eJ < 0) = true := decide_eq_true d3
        clear d3
        (first | rw [d9] | (simp only [i64_w, i32_w]; rw [d9]) | skip)
        have H' := am H
        clear H
        go_wp2
        go_meet
        case rel => exact ⟨_, (true), eqs, H', ⟨by have := ex.out; first | omega | exact Nat.le_refl _⟩, ⟨by (with_reducible repeat (first | apply Kd.R_alloc | apply Kd.R_drewN | apply Kd.R_drew)); exact Kd.R_mono ab.out (fun _ hk => ⟨hk.1, hk.2.1⟩)⟩, ⟨by (with_reducible repeat (first | apply Kd.R_alloc | apply Kd.R_drewN | apply Kd.R_drew)); exact Kd.R_mono ac.out (fun _ hk => ⟨hk.1, hk.2.1⟩)⟩, ⟨by (with_reducible repeat (first | apply Kd.R_alloc | apply Kd.R_drewN | apply Kd.R_drew)); exact Kd.R_mono Z.out (fun _ hk => ⟨hk.1.1, hk.1.2⟩)⟩, ⟨by (with_reducible repeat (first | apply Kd.R_alloc | apply Kd.R_drewN | apply Kd.R_drew)); exact Kd.R_mono aa.out (fun _ hk => ⟨hk.1.1, hk.1.2⟩)⟩, ⟨by (with_reducible repeat (first | apply Kd.R_alloc | apply Kd.R_drewN | apply Kd.R_drew)); exact Kd.R_mono L.out (fun _ hk => ⟨hk.1, hk.2.1⟩)⟩, ⟨by (with_reducible repeat (first | apply Kd.R_alloc | apply Kd.R_drewN | apply Kd.R_drew)); exact Kd.R_mono M.out (fun _ hk => ⟨hk.1, hk.2.1⟩)⟩, ⟨bf z.out⟩, ⟨bf s.out⟩, ⟨bf D.out⟩, ⟨bf G.out⟩, ⟨bf I.out⟩, ⟨bs HB.out⟩⟩
       ·rw [if_neg d3] at H
        have d9 : decide (eJ < 0) = false := decide_eq_false d3
        clear d3
        (first | rw [d9] | (simp only [i64_w, i32_w]; rw [d9]) | skip)
        replace H := Option.bind_eq_some_iff.mp H
        obtain ⟨ez, f0, H⟩ := H
        try dsimp -simprocs only at H
        have f1 := am f0
        clear f0
        by_cases eF : ez = true
        ·subst eF
         replace H : (laws_FnExactGraphDo.j1 bD bt (bT != bt) ar au aA aB aC aD aE aF aG aH O T aj ak) = some r := by rw [if_pos rfl] at H; exact H
         have H' := am H
         clear H
         have jU := bX.out
         have jV := bW.out
         have jW := bY.out
         have jX := bm.out
         have jY := bP.out
         have jZ := bO.out
         have j3 := bU.out
         have j4 := bL.out
         obtain ⟨g9, hh⟩ := bc2 (w := eK) I.out
         have hj := blk_frozen I.out
         have j5 := bM.out
         have j6 := bz.out
         have j7 := bN.out
         have j8 := bl.out
         have j9 := dV.out
         have ka := dW.out
         obtain ⟨ho, hp⟩ := bc2 (w := eK) D.out
         have hu := blk_frozen D.out
         go_wp2_with (first | (go_at_call 22; (with_reducible refine (laws_eqGraph.calls bD _ _ aj _ _ ak _ _ O _ _ T true _ ?av ?aw ?ax ?aL ?b2 ?b3 ?b4 ?b5 f1.out).mono ?_); (case av => exact cr L); (case aw => exact cc L); (case ax => exact cr M); (case aL => exact cc M); (case b2 => exact cr ab); (case b3 => exact cc ab); (case b4 => exact cr ac); (case b5 => exact cc ac); rintro e kc ⟨rfl, hb⟩; replace ab := rb ab hb; replace ac := rb ac hb; replace Z := rb Z hb; replace aa := rb aa hb; replace L := rb L hb; replace M := rb M hb; replace cX := rb cX hb; replace cY := rb cY hb; replace z := bb z hb rfl; replace s := bb s hb rfl; replace D := bb D hb rfl; replace G := bb G hb rfl; replace I := bb I hb rfl; replace HB := hs HB hb; (try clear hb)))
         go_meet
         case rel => exact ⟨_, ((bT != bt)), eqs, H', ⟨by have := ex.out; first | omega | exact Nat.le_refl _⟩, ⟨by (with_reducible repeat (first | apply Kd.R_alloc | apply Kd.R_drewN | apply Kd.R_drew)); exact Kd.R_mono ab.out (fun _ hk => ⟨hk.1, hk.2.1⟩)⟩, ⟨by (with_reducible repeat (first | apply Kd.R_alloc | apply Kd.R_drewN | apply Kd.R_drew)); exact Kd.R_mono ac.out (fun _ hk => ⟨hk.1, hk.2.1⟩)⟩, ⟨by (with_reducible repeat (first | apply Kd.R_alloc | apply Kd.R_drewN | apply Kd.R_drew)); exact Kd.R_mono Z.out (fun _ hk => ⟨hk.1.1, hk.1.2⟩)⟩, ⟨by (with_reducible repeat (first | apply Kd.R_alloc | apply Kd.R_drewN | apply Kd.R_drew)); exact Kd.R_mono aa.out (fun _ hk => ⟨hk.1.1, hk.1.2⟩)⟩, ⟨by (with_reducible repeat (first | apply Kd.R_alloc | apply Kd.R_drewN | apply Kd.R_drew)); exact Kd.R_mono L.out (fun _ hk => ⟨hk.1, hk.2.1⟩)⟩, ⟨by (with_reducible repeat (first | apply Kd.R_alloc | apply Kd.R_drewN | apply Kd.R_drew)); exact Kd.R_mono M.out (fun _ hk => ⟨hk.1, hk.2.1⟩)⟩, ⟨bf z.out⟩, ⟨bf s.out⟩, ⟨bf D.out⟩, ⟨bf G.out⟩, ⟨bf I.out⟩, ⟨bs HB.out⟩⟩
        ·replace eF := Bool.eq_false_iff.mpr eF
         subst eF
         have H1 : (laws_FnExactGraphDo.j1 bD bt true ar au aA aB aC aD aE aF aG aH O T aj ak) = some r := by rw [if_neg (show ¬ (false = true) by decide)] at H; exact H
         clear H
         have H := H1
         clear H1
         have H' := am H
         clear H
         have kd := bX.out
         have ke := bW.out
         have kf := bY.out
         have kg := bm.out
         have kh := bP.out
         have ki := bO.out
         have kj := bU.out
         have km := bL.out
         obtain ⟨hv, hx⟩ := bc2 (w := eK) I.out
         have hy := blk_frozen I.out
         have kn := bM.out
         have ko := bz.out
         have kr := bN.out
         have ku := bl.out
         have kv := dV.out
         have kw := dW.out
         obtain ⟨hz, hA⟩ := bc2 (w := eK) D.out
         have hC := blk_frozen D.out
         go_wp2_with (first | (go_at_call 22; (with_reducible refine (laws_eqGraph.calls bD _ _ aj _ _ ak _ _ O _ _ T false _ ?av ?aw ?ax ?aL ?b2 ?b3 ?b4 ?b5 f1.out).mono ?_); (case av => exact cr L); (case aw => exact cc L); (case ax => exact cr M); (case aL => exact cc M); (case b2 => exact cr ab); (case b3 => exact cc ab); (case b4 => exact cr ac); (case b5 => exact cc ac); rintro e kx ⟨rfl, hb⟩; replace ab := rb ab hb; replace ac := rb ac hb; replace Z := rb Z hb; replace aa := rb aa hb; replace L := rb L hb; replace M := rb M hb; replace cX := rb cX hb; replace cY := rb cY hb; replace z := bb z hb rfl; replace s := bb s hb rfl; replace D := bb D hb rfl; replace G := bb G hb rfl; replace I := bb I hb rfl; replace HB := hs HB hb; (try clear hb)))
         go_meet
         case rel => exact ⟨_, (true), eqs, H', ⟨by have := ex.out; first | omega | exact Nat.le_refl _⟩, ⟨by (with_reducible repeat (first | apply Kd.R_alloc | apply Kd.R_drewN | apply Kd.R_drew)); exact Kd.R_mono ab.out (fun _ hk => ⟨hk.1, hk.2.1⟩)⟩, ⟨by (with_reducible repeat (first | apply Kd.R_alloc | apply Kd.R_drewN | apply Kd.R_drew)); exact Kd.R_mono ac.out (fun _ hk => ⟨hk.1, hk.2.1⟩)⟩, ⟨by (with_reducible repeat (first | apply Kd.R_alloc | apply Kd.R_drewN | apply Kd.R_drew)); exact Kd.R_mono Z.out (fun _ hk => ⟨hk.1.1, hk.1.2⟩)⟩, ⟨by (with_reducible repeat (first | apply Kd.R_alloc | apply Kd.R_drewN | apply Kd.R_drew)); exact Kd.R_mono aa.out (fun _ hk => ⟨hk.1.1, hk.1.2⟩)⟩, ⟨by (with_reducible repeat (first | apply Kd.R_alloc | apply Kd.R_drewN | apply Kd.R_drew)); exact Kd.R_mono L.out (fun _ hk => ⟨hk.1, hk.2.1⟩)⟩, ⟨by (with_reducible repeat (first | apply Kd.R_alloc | apply Kd.R_drewN | apply Kd.R_drew)); exact Kd.R_mono M.out (fun _ hk => ⟨hk.1, hk.2.1⟩)⟩, ⟨bf z.out⟩, ⟨bf s.out⟩, ⟨bf D.out⟩, ⟨bf G.out⟩, ⟨bf I.out⟩, ⟨bs HB.out⟩⟩
      case rest =>
       clear e0
       try clear c1
       try clear c2
       try clear p2
       try clear c5
       try clear c6
       try clear c7
       try clear c8
       try clear c9
       try clear ky
       try clear kz
       try clear hD
       try clear fR
       try clear kA
       try clear fS
       try clear fT
       try clear d8
       try clear gN
       try clear gO
       try clear gP
       try clear gQ
       try clear gR
       try clear gS
       try clear gT
       try clear gU
       try clear gV
       try clear gW
       try clear gX
       try clear gY
       try clear gZ
       try clear g0
       try clear ey
       try clear eC
       try clear kB
       try clear kC
       try clear kD
       try clear kE
       try clear d3
       try clear d9
       try clear eF
       try clear kF
       try clear kG
       try clear kH
       try clear kI
       try clear kJ
       try clear kK
       try clear kL
       try clear kM
       try clear kN
       try clear kO
       try clear kP
       try clear kQ
       try clear kR
       try clear kS
       try clear g9 hh
       try clear ho hp
       try clear hv hx
       try clear hz hA
       try clear fF fG
       try clear fI fJ
       try clear fL fM
       try clear fO fP
       try clear g5 g6
       try clear hj
       try clear hu
       try clear hy
       try clear hC
       try clear fH
       try clear fK
       try clear fN
       try clear fQ
       try clear g7
       try clear p2
       obtain ⟨kq, eL, rfl, HA, f2, ab, ac, Z, aa, L, M, z, s, D, G, I, HB⟩ := hcut
       have hl482000_80 := (Kd.R_reads' Z.out).1
       rw [hl482000_80] at Z
       (try simp only [hl482000_80])
       (try simp only [hl482000_80] at z)
       (try simp only [hl482000_80] at s)
       (try simp only [hl482000_80] at D)
       (try simp only [hl482000_80] at G)
       (try simp only [hl482000_80] at I)
       (try simp only [hl482000_80] at ab)
       (try simp only [hl482000_80] at ac)
       (try simp only [hl482000_80] at aa)
       (try simp only [hl482000_80] at L)
       (try simp only [hl482000_80] at M)
       have hl482001_80 := (Kd.R_reads' aa.out).1
       rw [hl482001_80] at aa
       (try simp only [hl482001_80])
       (try simp only [hl482001_80] at z)
       (try simp only [hl482001_80] at s)
       (try simp only [hl482001_80] at D)
       (try simp only [hl482001_80] at G)
       (try simp only [hl482001_80] at I)
       (try simp only [hl482001_80] at ab)
       (try simp only [hl482001_80] at ac)
       (try simp only [hl482001_80] at Z)
       (try simp only [hl482001_80] at L)
       (try simp only [hl482001_80] at M)
       cases kq with
       | zero => exact absurd HA.out (by simp [laws_FnExactGraphDo.j1])
       | succ bE =>
        have H := HA.out
        clear HA
        simp only [laws_FnExactGraphDo.j1] at H
        by_cases eM : eL = true
        ·subst eM
         replace H : (some false) = some r := by rw [if_pos rfl] at H; exact H
         exact absurd (Option.some.inj H) (by rw [hT.out]; decide)
        ·replace eM := Bool.eq_false_iff.mpr eM
         subst eM
         have H1 : ((laws_markGraph.f bE aj ak 1).bind fun dt => ((laws_heldGraph.f bE dt.2.1 dt.2.2 1).bind fun cE => (if cE < 0 then (some false) else (if cE = dt.1 then ((laws_toGraph.f bE ar au).bind fun f3 => ((laws_toOp.f aA aB aC aD aE aF aG aH).bind fun dX => ((impl_GraphDo.f bE f3.1 f3.2 dX.1 dX.2.1 dX.2.2.1 dX.2.2.2.1 dX.2.2.2.2.1 dX.2.2.2.2.2.1 dX.2.2.2.2.2.2.1 dX.2.2.2.2.2.2.2).bind fun e5 => ((laws_eqGraph.f bE e5.1 e5.2.1 O T).bind fun e6 => (if e6 = true then (laws_FnExactGraphDo.j2 bE dt.1 (e5.2.2 != bt) dt.2.1 dt.2.2) else (laws_FnExactGraphDo.j2 bE dt.1 true dt.2.1 dt.2.2)))))) else (some false))))) = some r := by rw [if_neg (show ¬ (false = true) by decide)] at H; exact H
         clear H
         have H := H1
         clear H1
         replace H := Option.bind_eq_some_iff.mp H
         obtain ⟨⟨bV, bZ, b0⟩, f4, H⟩ := H
         try dsimp -simprocs only at H
         have hE := am f4
         clear f4
         replace H := Option.bind_eq_some_iff.mp H
         obtain ⟨cE, f5, H⟩ := H
         try dsimp -simprocs only at H
         have hF := am f5
         clear f5
         by_cases ea : cE < 0
         ·rw [if_pos ea] at H
          have hG : decide (cE < 0) = true := decide_eq_true ea
          clear ea
          exact absurd (Option.some.inj H) (by rw [hT.out]; decide)
         ·rw [if_neg ea] at H
          have hG : decide (cE < 0) = false := decide_eq_false ea
          clear ea
          by_cases d4 : cE = bV
          ·rw [if_pos d4] at H
           have hH : (cE == bV) = true := beq_iff_eq.mpr d4
           have hI : (cE != bV) = false := bne_eq_false_iff_eq.mpr d4
           clear d4
           replace H := Option.bind_eq_some_iff.mp H
           obtain ⟨⟨bQ, bR⟩, f6, H⟩ := H
           try dsimp -simprocs only at H
           have f7 := am f6
           clear f6
           replace H := Option.bind_eq_some_iff.mp H
           obtain ⟨⟨cF, cG, cH, cI, cJ, cK, cL, cM⟩, f8, H⟩ := H
           try dsimp -simprocs only at H
           have e7 := am f8
           clear f8
           replace H := Option.bind_eq_some_iff.mp H
           obtain ⟨⟨bv, bw, du⟩, f9, H⟩ := H
           try dsimp -simprocs only at H
           have eN := am f9
           clear f9
           have e8 := am H
           clear H
           have kT := bX.out
           have kU := bW.out
           have kV := bY.out
           have kW := bm.out
           have kX := bP.out
           have kY := bO.out
           have kZ := bU.out
           have k0 := bL.out
           obtain ⟨k1, k2⟩ := bc2 (w := wc) I.out
           have k3 := blk_frozen I.out
           try go_wp2_with (first | ((with_reducible refine gc 23 rfl ?_); refine gl 70 Try.func23 #[.agg #[.slice aV aj.length aQ, .slice aW ak.length aR], .int .i64 1] ?_; (with_reducible refine (laws_markGraph.calls bE (fun k_ => some k_ = (.slice aV aj.length aQ : Value).ownBlock) (.slice aV aj.length aQ) aj (fun k_ => some k_ = (.slice aW ak.length aR : Value).ownBlock) (.slice aW ak.length aR) ak 1 bV bZ b0 w _ ?av ?aw ?ax hE.out).mono ?_); (case av => exact bs HB.out); (case aw => exact Kd.R_tight rfl L.out); (case ax => exact Kd.R_tight rfl M.out); rintro e hJ ⟨rfl, eD, eE, hb, hkp⟩; refine ⟨_, rfl, ?_⟩; replace ab := am (Kd.R_mono (ok' := fun k_ => some k_ ≠ (.slice af bo.length ag : Value).ownBlock ∧ some k_ ≠ (.slice aV aj.length aQ : Value).ownBlock) (Kd.R_keptB ((Kd.R_apart' ab.out (Kd.R_typed M.out) (by decide))) hkp (fun k_ hk_ hs_ => Or.elim hs_ (fun e_ => (hk_.1.2) e_) (fun e_ => (hk_.2) e_))) (fun k_ hk_ => ⟨hk_.1.1.1, hk_.1.1.2⟩)); replace ac := am (Kd.R_mono (ok' := fun k_ => some k_ ≠ (.slice ah br.length ai : Value).ownBlock ∧ some k_ ≠ (.slice aW ak.length aR : Value).ownBlock) (Kd.R_keptB ((Kd.R_apart' ac.out (Kd.R_typed L.out) (by decide))) hkp (fun k_ hk_ hs_ => Or.elim hs_ (fun e_ => (hk_.2) e_) (fun e_ => (hk_.1.2) e_))) (fun k_ hk_ => ⟨hk_.1.1.1, hk_.1.1.2⟩)); replace Z := am (Kd.R_mono (ok' := fun k_ => some k_ ≠ (.slice aM O.length ay : Value).ownBlock ∧ some k_ ≠ (.slice aV aj.length aQ : Value).ownBlock) (Kd.R_keptB ((Kd.R_apart' Z.out (Kd.R_typed M.out) (by decide))) hkp (fun k_ hk_ hs_ => Or.elim hs_ (fun e_ => (hk_.1.2) e_) (fun e_ => (hk_.2) e_))) (fun k_ hk_ => ⟨hk_.1.1.1, hk_.1.1.2⟩)); replace aa := am (Kd.R_mono (ok' := fun k_ => some k_ ≠ (.slice aN T.length az : Value).ownBlock ∧ some k_ ≠ (.slice aW ak.length aR : Value).ownBlock) (Kd.R_keptB ((Kd.R_apart' aa.out (Kd.R_typed L.out) (by decide))) hkp (fun k_ hk_ hs_ => Or.elim hs_ (fun e_ => (hk_.2) e_) (fun e_ => (hk_.1.2) e_))) (fun k_ hk_ => ⟨hk_.1.1.1, hk_.1.1.2⟩)); replace z := am (blk_kept (bf z.out) hkp (fun hs_ => Or.elim hs_ (fun e_ => (fun e_ => (Kd.R_ne L.out z.out (by decide)) e_) e_) (fun e_ => (fun e_ => (Kd.R_ne M.out z.out (by decide)) e_) e_))); replace s := am (blk_kept (bf s.out) hkp (fun hs_ => Or.elim hs_ (fun e_ => (fun e_ => (Kd.R_ne L.out s.out (by decide)) e_) e_) (fun e_ => (fun e_ => (Kd.R_ne M.out s.out (by decide)) e_) e_))); replace D := am (blk_kept (bf D.out) hkp (fun hs_ => Or.elim hs_ (fun e_ => (fun e_ => (Kd.R_ne L.out D.out (by decide)) e_) e_) (fun e_ => (fun e_ => (Kd.R_ne M.out D.out (by decide)) e_) e_))); replace G := am (blk_kept (bf G.out) hkp (fun hs_ => Or.elim hs_ (fun e_ => (fun e_ => (Kd.R_ne L.out G.out (by decide)) e_) e_) (fun e_ => (fun e_ => (Kd.R_ne M.out G.out (by decide)) e_) e_))); replace I := am (blk_kept (bf I.out) hkp (fun hs_ => Or.elim hs_ (fun e_ => (fun e_ => (Kd.R_ne L.out I.out (by decide)) e_) e_) (fun e_ => (fun e_ => (Kd.R_ne M.out I.out (by decide)) e_) e_))); replace L := am (Kd.R_reok rfl eD (fun k_ e_ => L.out.1 k_ e_)); replace M := am (Kd.R_reok rfl eE (fun k_ e_ => M.out.1 k_ e_)); replace HB := am hb; (try clear hb hkp); (try clear eD); (try clear eE); obtain ⟨k4, k5⟩ := bc2 (w := hJ) I.out; have k6 := blk_frozen I.out) | ((with_reducible refine gc 37 rfl ?_); refine goesL_ (some 73) rfl rfl Try.func37 (by kernel_rfl) rfl #[.agg #[.slice aV bZ.length aQ, .slice aW b0.length aR], .int .i64 1] rfl (by (try simp only [List.map_toArray, List.map_cons, List.map_nil]); first | done | (rw [show bZ.length = aj.length from (Kd.R_reads' L.out).1.symm, show b0.length = ak.length from (Kd.R_reads' M.out).1.symm] <;> rfl) | rfl | (simp only [List.length_drop, List.length_take]; rfl)) ?_; (with_reducible refine (laws_heldGraph.calls bE _ _ bZ _ _ b0 1 cE _ ?av ?aw ?ax ?aL hF.out).mono ?_); (case av => exact cr L); (case aw => rw [show bZ.length = aj.length from (Kd.R_reads' L.out).1.symm]; exact cc L); (case ax => exact cr M); (case aL => rw [show b0.length = ak.length from (Kd.R_reads' M.out).1.symm]; exact cc M); rintro e hL ⟨rfl, hb⟩; refine ⟨_, rfl, ?_⟩; replace ab := rb ab hb; replace ac := rb ac hb; replace Z := rb Z hb; replace aa := rb aa hb; replace L := rb L hb; replace M := rb M hb; replace z := bb z hb rfl; replace s := bb s hb rfl; replace D := bb D hb rfl; replace G := bb G hb rfl; replace I := bb I hb rfl; replace HB := hs HB hb; (try clear hb)))
           replace ab := rd_ ab
           replace ac := rd_ ac
           replace Z := rd_ Z
           replace aa := rd_ aa
           replace L := rd_ L
           replace M := rd_ M
           replace z := bd z
           replace s := bd s
           replace D := bd D
           replace G := bd G
           replace I := bd I
           replace HB := hd HB
           refine sta 11 (fun w' => w'.cell? ⟨be, 0, none⟩ = some (.slice bg ar.length bh) ∧ w'.cell? ⟨be, 1, none⟩ = some (.slice bi au.length bj) ∧ w'.cell? ⟨J, 0, none⟩ = some (.int .i64 aA) ∧ w'.cell? ⟨J, 1, none⟩ = some (.int .i64 aB) ∧ w'.cell? ⟨J, 2, none⟩ = some (.int .i64 aC) ∧ w'.cell? ⟨J, 3, none⟩ = some (.int .i64 aD) ∧ w'.cell? ⟨J, 4, none⟩ = some (.int .i64 aE) ∧ w'.cell? ⟨J, 5, none⟩ = some (.int .i64 aF) ∧ w'.cell? ⟨J, 6, none⟩ = some (.int .i64 aG) ∧ w'.cell? ⟨J, 7, none⟩ = some (.int .i64 aH)) [] ⟨cx z 0, cx z 1, cx s 0, cx s 1, cx s 2, cx s 3, cx s 4, cx s 5, cx s 6, cx s 7⟩ (fun hHeld => ?_); refine with_tabW laws_FnExactGraphDo.tab24 laws_FnExactGraphDo.bits24 (fun HT_ HW_ => ?_)
           generalize hL.drew = k7 at ab ac Z aa L M z s D G I HB hHeld ⊢
           refine tk 0 80 ?_
           refine tk 2 82 ?_
           refine join_ (σ := Value × Value × Value × Value × Nat) 2 #[true, true, true, true, true, true, true, true, true, false, false] (fun s_ => [(81, .agg #[s_.1, s_.2.1]), (83, .agg #[.int .i64 cF, .int .i64 cG, .int .i64 cH, .int .i64 cI, .int .i64 cJ, .int .i64 cK, .int .i64 cL, .int .i64 cM]), (84, .tuple #[.agg #[s_.2.2.1, s_.2.2.2.1], .int .i64 du]), (14, .pointer (some ⟨s_.2.2.2.2, 0, none⟩)), (79, .tuple #[.agg #[s_.2.2.1, s_.2.2.2.1], .int .i64 du]), (85, .agg #[s_.2.2.1, s_.2.2.2.1]), (86, .int .i64 du)]) (fun s_ w' => (w'.cell? ⟨be, 0, none⟩ = some (.slice bg ar.length bh) ∧ w'.cell? ⟨be, 1, none⟩ = some (.slice bi au.length bj) ∧ w'.cell? ⟨J, 0, none⟩ = some (.int .i64 aA) ∧ w'.cell? ⟨J, 1, none⟩ = some (.int .i64 aB) ∧ w'.cell? ⟨J, 2, none⟩ = some (.int .i64 aC) ∧ w'.cell? ⟨J, 3, none⟩ = some (.int .i64 aD) ∧ w'.cell? ⟨J, 4, none⟩ = some (.int .i64 aE) ∧ w'.cell? ⟨J, 5, none⟩ = some (.int .i64 aF) ∧ w'.cell? ⟨J, 6, none⟩ = some (.int .i64 aG) ∧ w'.cell? ⟨J, 7, none⟩ = some (.int .i64 aH)) ∧ (Kd.R k36 36 w' w.heap.size (fun k_ => some k_ ≠ (s_.2.2.1 : Value).ownBlock ∧ some k_ ≠ (.slice aM O.length ay : Value).ownBlock ∧ some k_ ≠ (.slice af bo.length ag : Value).ownBlock ∧ some k_ ≠ (.slice aV aj.length aQ : Value).ownBlock) s_.1 bQ) ∧ (Kd.R k56 56 w' w.heap.size (fun k_ => some k_ ≠ (s_.2.2.2.1 : Value).ownBlock ∧ some k_ ≠ (.slice aN T.length az : Value).ownBlock ∧ some k_ ≠ (.slice ah br.length ai : Value).ownBlock ∧ some k_ ≠ (.slice aW ak.length aR : Value).ownBlock) s_.2.1 bR) ∧ (Kd.R k36 36 w' w.heap.size (fun k_ => some k_ ≠ (s_.1 : Value).ownBlock ∧ some k_ ≠ (.slice aM O.length ay : Value).ownBlock ∧ some k_ ≠ (.slice af bo.length ag : Value).ownBlock ∧ some k_ ≠ (.slice aV aj.length aQ : Value).ownBlock) s_.2.2.1 bv) ∧ (Kd.R k56 56 w' w.heap.size (fun k_ => some k_ ≠ (s_.2.1 : Value).ownBlock ∧ some k_ ≠ (.slice aN T.length az : Value).ownBlock ∧ some k_ ≠ (.slice ah br.length ai : Value).ownBlock ∧ some k_ ≠ (.slice aW ak.length aR : Value).ownBlock) s_.2.2.2.1 bw) ∧ (Kd.R k36 36 w' w.heap.size (fun k_ => some k_ ≠ (s_.1 : Value).ownBlock ∧ some k_ ≠ (s_.2.2.1 : Value).ownBlock ∧ some k_ ≠ (.slice af bo.length ag : Value).ownBlock ∧ some k_ ≠ (.slice aV aj.length aQ : Value).ownBlock) (.slice aM O.length ay) O) ∧ (Kd.R k56 56 w' w.heap.size (fun k_ => some k_ ≠ (s_.2.1 : Value).ownBlock ∧ some k_ ≠ (s_.2.2.2.1 : Value).ownBlock ∧ some k_ ≠ (.slice ah br.length ai : Value).ownBlock ∧ some k_ ≠ (.slice aW ak.length aR : Value).ownBlock) (.slice aN T.length az) T) ∧ (Kd.R k36 36 w' w.heap.size (fun k_ => some k_ ≠ (s_.1 : Value).ownBlock ∧ some k_ ≠ (s_.2.2.1 : Value).ownBlock ∧ some k_ ≠ (.slice aM O.length ay : Value).ownBlock ∧ some k_ ≠ (.slice aV aj.length aQ : Value).ownBlock) (.slice af bo.length ag) bo) ∧ (Kd.R k56 56 w' w.heap.size (fun k_ => some k_ ≠ (s_.2.1 : Value).ownBlock ∧ some k_ ≠ (s_.2.2.2.1 : Value).ownBlock ∧ some k_ ≠ (.slice aN T.length az : Value).ownBlock ∧ some k_ ≠ (.slice aW ak.length aR : Value).ownBlock) (.slice ah br.length ai) br) ∧ (Kd.R k36 36 w' w.heap.size (fun k_ => some k_ ≠ (s_.1 : Value).ownBlock ∧ some k_ ≠ (s_.2.2.1 : Value).ownBlock ∧ some k_ ≠ (.slice aM O.length ay : Value).ownBlock ∧ some k_ ≠ (.slice af bo.length ag : Value).ownBlock) (.slice aV aj.length aQ) bZ) ∧ (Kd.R k56 56 w' w.heap.size (fun k_ => some k_ ≠ (s_.2.1 : Value).ownBlock ∧ some k_ ≠ (s_.2.2.2.1 : Value).ownBlock ∧ some k_ ≠ (.slice aN T.length az : Value).ownBlock ∧ some k_ ≠ (.slice ah br.length ai : Value).ownBlock) (.slice aW ak.length aR) b0) ∧ (w'.heap[be]? = some (.cells #[.slice bg ar.length bh, .slice bi au.length bj] 25 (0, 0))) ∧ (w'.heap[J]? = some (.cells #[.int .i64 aA, .int .i64 aB, .int .i64 aC, .int .i64 aD, .int .i64 aE, .int .i64 aF, .int .i64 aG, .int .i64 aH] 72 (0, 0))) ∧ (w'.heap[aI]? = some (.cells #[.slice aM O.length ay, .slice aN T.length az] 34 (0, 0))) ∧ (w'.heap[aO]? = some (.cells #[.slice af bo.length ag, .slice ah br.length ai] 34 (0, 0))) ∧ (w'.heap[aP]? = some (.cells #[.slice aV aj.length aQ, .slice aW ak.length aR] 34 (0, 0))) ∧ (w'.heap[s_.2.2.2.2]? = some (.cells #[.slice none 0 0, .slice none 0 0] 34 (0, 0))) ∧ (w.heap.size ≤ s_.2.2.2.2) ∧ (w.heap.size ≤ s_.2.2.2.2) ∧ (be ≠ s_.2.2.2.2) ∧ (s_.2.2.2.2 ≠ be) ∧ (J ≠ s_.2.2.2.2) ∧ (s_.2.2.2.2 ≠ J) ∧ (aI ≠ s_.2.2.2.2) ∧ (s_.2.2.2.2 ≠ aI) ∧ (aO ≠ s_.2.2.2.2) ∧ (s_.2.2.2.2 ≠ aO) ∧ (aP ≠ s_.2.2.2.2) ∧ (s_.2.2.2.2 ≠ aP) ∧ (Below w.heap.size w w')) ?_ ?_
           rotate_left
           ·intro hCont
            refine two_ (i := 1) (j := 8) (Ni := some 81) (Nj := some 14) #[true, true, true, false, false, false, false, false, false, false, false] #[true, false, true, false, false, false, false, false, true, false, false] rfl rfl rfl rfl (two_of HT_.out (by kernel_rfl)) (by decide) (by decide) (fun K hK => ?_) (fun K hK => ?_)
            ·skip
             refine gs Try.func18 #[.agg #[.slice bg ar.length bh, .slice bi au.length bj]] ?_
             with_reducible refine (laws_toGraph.calls bE _ _ ar _ _ au bQ bR _ ?av ?aw ?ax ?aL f7.out).mono ?_
             (case av => exact Kd.C_below dv.out (bs HB.out))
             (case aw => exact dw.out)
             (case ax => exact Kd.C_below dx.out (bs HB.out))
             (case aL => exact dy.out)
             rintro e hM ⟨cZ, c0, rfl, X, Y, hb⟩
             refine ⟨_, rfl, ?_⟩
             have aX := am (Kd.R_lower (Kd.R_new' (Kd.R_new' (Kd.R_new' X (rk ab)) (rk Z)) (rk L)) (below_size (bs HB.out)))
             replace ab := re ab X hb
             replace Z := re Z X hb
             replace L := re L X hb
             have aY := am (Kd.R_lower (Kd.R_new' (Kd.R_new' (Kd.R_new' Y (rk ac)) (rk aa)) (rk M)) (below_size (bs HB.out)))
             replace ac := re ac Y hb
             replace aa := re aa Y hb
             replace M := re M Y hb
             replace z := bb z hb rfl
             replace s := bb s hb rfl
             replace D := bb D hb rfl
             replace G := bb G hb rfl
             replace I := bb I hb rfl
             replace HB := hs HB hb
             (try clear hb)
             (try clear hb2)
             (try clear hk)
             (try clear hi)
             (try clear X)
             (try clear Y)
             refine hK.out _ _ ⟨cx z 0, cx z 1, cx s 0, cx s 1, cx s 2, cx s 3, cx s 4, cx s 5, cx s 6, cx s 7⟩ (fun hHeld => ?_)
             clear hK K
             refine nrm 81 ?_
             refine two_ (i := 3) (j := 8) (Ni := some 83) (Nj := some 14) #[true, true, true, true, false, false, false, false, false, false, false] #[true, true, true, false, false, false, false, false, true, false, false] rfl rfl rfl rfl (two_of HT_.out (by kernel_rfl)) (by decide) (by decide) (fun K hK => ?_) (fun K hK => ?_)
             ·skip
              refine gs Try.func52 #[.agg #[.int .i64 aA, .int .i64 aB, .int .i64 aC, .int .i64 aD, .int .i64 aE, .int .i64 aF, .int .i64 aG, .int .i64 aH]] ?_
              with_reducible refine (laws_toOp.calls aA aB aC aD aE aF aG aH cF cG cH cI cJ cK cL cM _ e7.out).mono ?_
              rintro e ga ⟨rfl, hb⟩
              refine ⟨_, rfl, ?_⟩
              replace ab := rb ab hb
              replace ac := rb ac hb
              replace Z := rb Z hb
              replace aa := rb aa hb
              replace L := rb L hb
              replace M := rb M hb
              replace aX := rb aX hb
              replace aY := rb aY hb
              replace z := bb z hb rfl
              replace s := bb s hb rfl
              replace D := bb D hb rfl
              replace G := bb G hb rfl
              replace I := bb I hb rfl
              replace HB := hs HB hb
              (try clear hb)
              (try clear hb2)
              (try clear hk)
              (try clear hi)
              obtain ⟨gb, ge, gf⟩ := Kd.R_slice aX.out
              (first | subst gf | (injection gf with an aS ao; have aT := an.symm; have aU := ao.symm; clear an aS ao; subst aT; subst aU))
              obtain ⟨c3, da, db⟩ := Kd.R_slice aY.out
              (first | subst db | (injection db with an aS ao; have aT := an.symm; have aU := ao.symm; clear an aS ao; subst aT; subst aU))
              refine hK.out _ _ ⟨cx z 0, cx z 1, cx s 0, cx s 1, cx s 2, cx s 3, cx s 4, cx s 5, cx s 6, cx s 7⟩ (fun hHeld => ?_)
              clear hK K
              refine nrm 83 ?_
              refine two_ (i := 4) (j := 8) (Ni := some 84) (Nj := some 14) #[true, true, true, true, true, false, false, false, false, false, false] #[true, true, true, true, false, false, false, false, true, false, false] rfl rfl rfl rfl (two_of HT_.out (by kernel_rfl)) (by decide) (by decide) (fun K hK => ?_) (fun K hK => ?_)
              ·skip
               refine gs Try.func53 #[.agg #[.slice gb bQ.length ge, .slice c3 bR.length da], .agg #[.int .i64 cF, .int .i64 cG, .int .i64 cH, .int .i64 cI, .int .i64 cJ, .int .i64 cK, .int .i64 cL, .int .i64 cM]] ?_
               with_reducible refine (impl_GraphDo.calls bE _ _ bQ _ _ bR cF cG cH cI cJ cK cL cM bv bw du _ ?av ?aw ?ax ?aL eN.out).mono ?_
               (case av => exact cr aX)
               (case aw => exact cc aX)
               (case ax => exact cr aY)
               (case aL => exact cc aY)
               rintro e k8 ⟨b6, b7, rfl, X, Y, hb⟩
               refine ⟨_, rfl, ?_⟩
               have bB := am (Kd.R_lower (Kd.R_new' (Kd.R_new' (Kd.R_new' (Kd.R_new' X (rk ab)) (rk Z)) (rk L)) (rk aX)) (below_size (bs HB.out)))
               replace ab := re ab X hb
               replace Z := re Z X hb
               replace L := re L X hb
               replace aX := re aX X hb
               have bC := am (Kd.R_lower (Kd.R_new' (Kd.R_new' (Kd.R_new' (Kd.R_new' Y (rk ac)) (rk aa)) (rk M)) (rk aY)) (below_size (bs HB.out)))
               replace ac := re ac Y hb
               replace aa := re aa Y hb
               replace M := re M Y hb
               replace aY := re aY Y hb
               replace z := bb z hb rfl
               replace s := bb s hb rfl
               replace D := bb D hb rfl
               replace G := bb G hb rfl
               replace I := bb I hb rfl
               replace HB := hs HB hb
               (try clear hb)
               (try clear hb2)
               (try clear hk)
               (try clear hi)
               (try clear X)
               (try clear Y)
               refine hK.out _ _ ⟨cx z 0, cx z 1, cx s 0, cx s 1, cx s 2, cx s 3, cx s 4, cx s 5, cx s 6, cx s 7⟩ (fun hHeld => ?_)
               clear hK K
               refine nrm 84 ?_
               refine pu 5 79 ?_
               refine pu 6 85 ?_
               refine pu 7 86 ?_
               refine on 8 14 (fun K hK => ?_)
               refine box_step ?hg (N := 14) ?hd (cs := #[.slice none 0 0, .slice none 0 0]) (t := 34) ?hr ?_; (case hd => rfl); (case hg => rfl); (case hr => first | (go_simp; done) | (go_simp; rfl))
               intro bc hg e9 hbox hb
               replace ab := rb ab hb
               replace ac := rb ac hb
               replace Z := rb Z hb
               replace aa := rb aa hb
               replace L := rb L hb
               replace M := rb M hb
               replace aX := rb aX hb
               replace aY := rb aY hb
               replace bB := rb bB hb
               replace bC := rb bC hb
               have aq := am hbox
               have dY := gwb HB hg
               have dZ := gwb HB hg
               replace HB := hs HB hb
               have bS := nq z hg
               have cN := nq' z hg
               replace z := bb z hb rfl
               have bu := nq s hg
               have cO := nq' s hg
               replace s := bb s hb rfl
               have cP := nq D hg
               have cQ := nq' D hg
               replace D := bb D hb rfl
               have cR := nq G hg
               have cS := nq' G hg
               replace G := bb G hb rfl
               have b8 := nq I hg
               have b9 := nq' I hg
               replace I := bb I hb rfl
               clear hb hbox hg
               refine hK.out _ _ ⟨cx z 0, cx z 1, cx s 0, cx s 1, cx s 2, cx s 3, cx s 4, cx s 5, cx s 6, cx s 7⟩ (fun hHeld => ?_)
               clear hK K
               refine nrm 14 ?_
               exact norm_ (by simp only [putAll, Act.put, List.setIfInBounds_toArray, List.set_cons_zero, List.set_cons_succ]) (hCont (.slice gb bQ.length ge, .slice c3 bR.length da, b6, b7, bc) _ ⟨hHeld, (by (with_reducible repeat (first | apply Kd.R_alloc | apply Kd.R_drewN | apply Kd.R_drew)); exact Kd.R_mono aX.out (fun _ hk => ⟨hk.2, ⟨hk.1.1.1.2, ⟨hk.1.1.2, hk.1.2⟩⟩⟩)), (by (with_reducible repeat (first | apply Kd.R_alloc | apply Kd.R_drewN | apply Kd.R_drew)); exact Kd.R_mono aY.out (fun _ hk => ⟨hk.2, ⟨hk.1.1.1.2, ⟨hk.1.1.2, hk.1.2⟩⟩⟩)), (by (with_reducible repeat (first | apply Kd.R_alloc | apply Kd.R_drewN | apply Kd.R_drew)); exact Kd.R_mono bB.out (fun _ hk => ⟨hk.2, ⟨hk.1.1.1.2, ⟨hk.1.1.2, hk.1.2⟩⟩⟩)), (by (with_reducible repeat (first | apply Kd.R_alloc | apply Kd.R_drewN | apply Kd.R_drew)); exact Kd.R_mono bC.out (fun _ hk => ⟨hk.2, ⟨hk.1.1.1.2, ⟨hk.1.1.2, hk.1.2⟩⟩⟩)), (by (with_reducible repeat (first | apply Kd.R_alloc | apply Kd.R_drewN | apply Kd.R_drew)); exact Kd.R_mono ab.out (fun _ hk => ⟨hk.1.2, ⟨hk.2, ⟨hk.1.1.1, hk.1.1.2⟩⟩⟩)), (by (with_reducible repeat (first | apply Kd.R_alloc | apply Kd.R_drewN | apply Kd.R_drew)); exact Kd.R_mono ac.out (fun _ hk => ⟨hk.1.2, ⟨hk.2, ⟨hk.1.1.1, hk.1.1.2⟩⟩⟩)), (by (with_reducible repeat (first | apply Kd.R_alloc | apply Kd.R_drewN | apply Kd.R_drew)); exact Kd.R_mono Z.out (fun _ hk => ⟨hk.1.2, ⟨hk.2, ⟨hk.1.1.1, hk.1.1.2⟩⟩⟩)), (by (with_reducible repeat (first | apply Kd.R_alloc | apply Kd.R_drewN | apply Kd.R_drew)); exact Kd.R_mono aa.out (fun _ hk => ⟨hk.1.2, ⟨hk.2, ⟨hk.1.1.1, hk.1.1.2⟩⟩⟩)), (by (with_reducible repeat (first | apply Kd.R_alloc | apply Kd.R_drewN | apply Kd.R_drew)); exact Kd.R_mono L.out (fun _ hk => ⟨hk.1.2, ⟨hk.2, ⟨hk.1.1.1, hk.1.1.2⟩⟩⟩)), (by (with_reducible repeat (first | apply Kd.R_alloc | apply Kd.R_drewN | apply Kd.R_drew)); exact Kd.R_mono M.out (fun _ hk => ⟨hk.1.2, ⟨hk.2, ⟨hk.1.1.1, hk.1.1.2⟩⟩⟩)), (bf z.out), (bf s.out), (bf D.out), (bf G.out), (bf I.out), (bf aq.out), dY.out, dZ.out, bS.out, cN.out, bu.out, cO.out, cP.out, cQ.out, cR.out, cS.out, b8.out, b9.out, (bs HB.out)⟩)
              ·skip
               refine box_step ?hg (N := 14) ?hd (cs := #[.slice none 0 0, .slice none 0 0]) (t := 34) ?hr ?_; (case hd => rfl); (case hg => rfl); (case hr => first | (go_simp; done) | (go_simp; rfl))
               intro bc hg gg hbox hb
               replace ab := rb ab hb
               replace ac := rb ac hb
               replace Z := rb Z hb
               replace aa := rb aa hb
               replace L := rb L hb
               replace M := rb M hb
               replace aX := rb aX hb
               replace aY := rb aY hb
               have aq := am hbox
               have dY := gwb HB hg
               have dZ := gwb HB hg
               replace HB := hs HB hb
               have bS := nq z hg
               have cN := nq' z hg
               replace z := bb z hb rfl
               have bu := nq s hg
               have cO := nq' s hg
               replace s := bb s hb rfl
               have cP := nq D hg
               have cQ := nq' D hg
               replace D := bb D hb rfl
               have cR := nq G hg
               have cS := nq' G hg
               replace G := bb G hb rfl
               have b8 := nq I hg
               have b9 := nq' I hg
               replace I := bb I hb rfl
               clear hb hbox hg
               obtain ⟨c3, da, db⟩ := Kd.R_slice aX.out
               (first | subst db | (injection db with an aS ao; have aT := an.symm; have aU := ao.symm; clear an aS ao; subst aT; subst aU))
               obtain ⟨d0, d1, d2⟩ := Kd.R_slice aY.out
               (first | subst d2 | (injection d2 with an aS ao; have aT := an.symm; have aU := ao.symm; clear an aS ao; subst aT; subst aU))
               refine hK.out _ _ ⟨cx z 0, cx z 1, cx s 0, cx s 1, cx s 2, cx s 3, cx s 4, cx s 5, cx s 6, cx s 7⟩ (fun hHeld => ?_)
               clear hK K
               refine nrm 14 ?_
               refine on 4 84 (fun K hK => ?_)
               refine gs Try.func53 #[.agg #[.slice c3 bQ.length da, .slice d0 bR.length d1], .agg #[.int .i64 cF, .int .i64 cG, .int .i64 cH, .int .i64 cI, .int .i64 cJ, .int .i64 cK, .int .i64 cL, .int .i64 cM]] ?_
               with_reducible refine (impl_GraphDo.calls bE _ _ bQ _ _ bR cF cG cH cI cJ cK cL cM bv bw du _ ?av ?aw ?ax ?aL eN.out).mono ?_
               (case av => exact cr aX)
               (case aw => exact cc aX)
               (case ax => exact cr aY)
               (case aL => exact cc aY)
               rintro e e9 ⟨b6, b7, rfl, X, Y, hb⟩
               refine ⟨_, rfl, ?_⟩
               have bB := am (Kd.R_lower (Kd.R_new' (Kd.R_new' (Kd.R_new' (Kd.R_new' X (rk ab)) (rk Z)) (rk L)) (rk aX)) (below_size (bs HB.out)))
               replace ab := re ab X hb
               replace Z := re Z X hb
               replace L := re L X hb
               replace aX := re aX X hb
               have bC := am (Kd.R_lower (Kd.R_new' (Kd.R_new' (Kd.R_new' (Kd.R_new' Y (rk ac)) (rk aa)) (rk M)) (rk aY)) (below_size (bs HB.out)))
               replace ac := re ac Y hb
               replace aa := re aa Y hb
               replace M := re M Y hb
               replace aY := re aY Y hb
               replace z := bb z hb rfl
               replace s := bb s hb rfl
               replace D := bb D hb rfl
               replace G := bb G hb rfl
               replace I := bb I hb rfl
               replace aq := bb aq hb rfl
               replace HB := hs HB hb
               (try clear hb)
               (try clear hb2)
               (try clear hk)
               (try clear hi)
               (try clear X)
               (try clear Y)
               refine hK.out _ _ ⟨cx z 0, cx z 1, cx s 0, cx s 1, cx s 2, cx s 3, cx s 4, cx s 5, cx s 6, cx s 7⟩ (fun hHeld => ?_)
               clear hK K
               refine nrm 84 ?_
               refine pu 5 79 ?_
               refine pu 6 85 ?_
               refine pu 7 86 ?_
               exact norm_ (by simp only [putAll, Act.put, List.setIfInBounds_toArray, List.set_cons_zero, List.set_cons_succ]) (hCont (.slice c3 bQ.length da, .slice d0 bR.length d1, b6, b7, bc) _ ⟨hHeld, (by (with_reducible repeat (first | apply Kd.R_alloc | apply Kd.R_drewN | apply Kd.R_drew)); exact Kd.R_mono aX.out (fun _ hk => ⟨hk.2, ⟨hk.1.1.1.2, ⟨hk.1.1.2, hk.1.2⟩⟩⟩)), (by (with_reducible repeat (first | apply Kd.R_alloc | apply Kd.R_drewN | apply Kd.R_drew)); exact Kd.R_mono aY.out (fun _ hk => ⟨hk.2, ⟨hk.1.1.1.2, ⟨hk.1.1.2, hk.1.2⟩⟩⟩)), (by (with_reducible repeat (first | apply Kd.R_alloc | apply Kd.R_drewN | apply Kd.R_drew)); exact Kd.R_mono bB.out (fun _ hk => ⟨hk.2, ⟨hk.1.1.1.2, ⟨hk.1.1.2, hk.1.2⟩⟩⟩)), (by (with_reducible repeat (first | apply Kd.R_alloc | apply Kd.R_drewN | apply Kd.R_drew)); exact Kd.R_mono bC.out (fun _ hk => ⟨hk.2, ⟨hk.1.1.1.2, ⟨hk.1.1.2, hk.1.2⟩⟩⟩)), (by (with_reducible repeat (first | apply Kd.R_alloc | apply Kd.R_drewN | apply Kd.R_drew)); exact Kd.R_mono ab.out (fun _ hk => ⟨hk.1.2, ⟨hk.2, ⟨hk.1.1.1, hk.1.1.2⟩⟩⟩)), (by (with_reducible repeat (first | apply Kd.R_alloc | apply Kd.R_drewN | apply Kd.R_drew)); exact Kd.R_mono ac.out (fun _ hk => ⟨hk.1.2, ⟨hk.2, ⟨hk.1.1.1, hk.1.1.2⟩⟩⟩)), (by (with_reducible repeat (first | apply Kd.R_alloc | apply Kd.R_drewN | apply Kd.R_drew)); exact Kd.R_mono Z.out (fun _ hk => ⟨hk.1.2, ⟨hk.2, ⟨hk.1.1.1, hk.1.1.2⟩⟩⟩)), (by (with_reducible repeat (first | apply Kd.R_alloc | apply Kd.R_drewN | apply Kd.R_drew)); exact Kd.R_mono aa.out (fun _ hk => ⟨hk.1.2, ⟨hk.2, ⟨hk.1.1.1, hk.1.1.2⟩⟩⟩)), (by (with_reducible repeat (first | apply Kd.R_alloc | apply Kd.R_drewN | apply Kd.R_drew)); exact Kd.R_mono L.out (fun _ hk => ⟨hk.1.2, ⟨hk.2, ⟨hk.1.1.1, hk.1.1.2⟩⟩⟩)), (by (with_reducible repeat (first | apply Kd.R_alloc | apply Kd.R_drewN | apply Kd.R_drew)); exact Kd.R_mono M.out (fun _ hk => ⟨hk.1.2, ⟨hk.2, ⟨hk.1.1.1, hk.1.1.2⟩⟩⟩)), (bf z.out), (bf s.out), (bf D.out), (bf G.out), (bf I.out), (bf aq.out), dY.out, dZ.out, bS.out, cN.out, bu.out, cO.out, cP.out, cQ.out, cR.out, cS.out, b8.out, b9.out, (bs HB.out)⟩)
             ·skip
              refine box_step ?hg (N := 14) ?hd (cs := #[.slice none 0 0, .slice none 0 0]) (t := 34) ?hr ?_; (case hd => rfl); (case hg => rfl); (case hr => first | (go_simp; done) | (go_simp; rfl))
              intro bc hg ga hbox hb
              replace ab := rb ab hb
              replace ac := rb ac hb
              replace Z := rb Z hb
              replace aa := rb aa hb
              replace L := rb L hb
              replace M := rb M hb
              replace aX := rb aX hb
              replace aY := rb aY hb
              have aq := am hbox
              have dY := gwb HB hg
              have dZ := gwb HB hg
              replace HB := hs HB hb
              have bS := nq z hg
              have cN := nq' z hg
              replace z := bb z hb rfl
              have bu := nq s hg
              have cO := nq' s hg
              replace s := bb s hb rfl
              have cP := nq D hg
              have cQ := nq' D hg
              replace D := bb D hb rfl
              have cR := nq G hg
              have cS := nq' G hg
              replace G := bb G hb rfl
              have b8 := nq I hg
              have b9 := nq' I hg
              replace I := bb I hb rfl
              clear hb hbox hg
              refine hK.out _ _ ⟨cx z 0, cx z 1, cx s 0, cx s 1, cx s 2, cx s 3, cx s 4, cx s 5, cx s 6, cx s 7⟩ (fun hHeld => ?_)
              clear hK K
              refine nrm 14 ?_
              refine on 3 83 (fun K hK => ?_)
              refine gs Try.func52 #[.agg #[.int .i64 aA, .int .i64 aB, .int .i64 aC, .int .i64 aD, .int .i64 aE, .int .i64 aF, .int .i64 aG, .int .i64 aH]] ?_
              with_reducible refine (laws_toOp.calls aA aB aC aD aE aF aG aH cF cG cH cI cJ cK cL cM _ e7.out).mono ?_
              rintro e gg ⟨rfl, hb⟩
              refine ⟨_, rfl, ?_⟩
              replace ab := rb ab hb
              replace ac := rb ac hb
              replace Z := rb Z hb
              replace aa := rb aa hb
              replace L := rb L hb
              replace M := rb M hb
              replace aX := rb aX hb
              replace aY := rb aY hb
              replace z := bb z hb rfl
              replace s := bb s hb rfl
              replace D := bb D hb rfl
              replace G := bb G hb rfl
              replace I := bb I hb rfl
              replace aq := bb aq hb rfl
              replace HB := hs HB hb
              (try clear hb)
              (try clear hb2)
              (try clear hk)
              (try clear hi)
              obtain ⟨c3, da, db⟩ := Kd.R_slice aX.out
              (first | subst db | (injection db with an aS ao; have aT := an.symm; have aU := ao.symm; clear an aS ao; subst aT; subst aU))
              obtain ⟨d0, d1, d2⟩ := Kd.R_slice aY.out
              (first | subst d2 | (injection d2 with an aS ao; have aT := an.symm; have aU := ao.symm; clear an aS ao; subst aT; subst aU))
              refine hK.out _ _ ⟨cx z 0, cx z 1, cx s 0, cx s 1, cx s 2, cx s 3, cx s 4, cx s 5, cx s 6, cx s 7⟩ (fun hHeld => ?_)
              clear hK K
              refine nrm 83 ?_
              refine on 4 84 (fun K hK => ?_)
              refine gs Try.func53 #[.agg #[.slice c3 bQ.length da, .slice d0 bR.length d1], .agg #[.int .i64 cF, .int .i64 cG, .int .i64 cH, .int .i64 cI, .int .i64 cJ, .int .i64 cK, .int .i64 cL, .int .i64 cM]] ?_
              with_reducible refine (impl_GraphDo.calls bE _ _ bQ _ _ bR cF cG cH cI cJ cK cL cM bv bw du _ ?av ?aw ?ax ?aL eN.out).mono ?_
              (case av => exact cr aX)
              (case aw => exact cc aX)
              (case ax => exact cr aY)
              (case aL => exact cc aY)
              rintro e e9 ⟨b6, b7, rfl, X, Y, hb⟩
              refine ⟨_, rfl, ?_⟩
              have bB := am (Kd.R_lower (Kd.R_new' (Kd.R_new' (Kd.R_new' (Kd.R_new' X (rk ab)) (rk Z)) (rk L)) (rk aX)) (below_size (bs HB.out)))
              replace ab := re ab X hb
              replace Z := re Z X hb
              replace L := re L X hb
              replace aX := re aX X hb
              have bC := am (Kd.R_lower (Kd.R_new' (Kd.R_new' (Kd.R_new' (Kd.R_new' Y (rk ac)) (rk aa)) (rk M)) (rk aY)) (below_size (bs HB.out)))
              replace ac := re ac Y hb
              replace aa := re aa Y hb
              replace M := re M Y hb
              replace aY := re aY Y hb
              replace z := bb z hb rfl
              replace s := bb s hb rfl
              replace D := bb D hb rfl
              replace G := bb G hb rfl
              replace I := bb I hb rfl
              replace aq := bb aq hb rfl
              replace HB := hs HB hb
              (try clear hb)
              (try clear hb2)
              (try clear hk)
              (try clear hi)
              (try clear X)
              (try clear Y)
              refine hK.out _ _ ⟨cx z 0, cx z 1, cx s 0, cx s 1, cx s 2, cx s 3, cx s 4, cx s 5, cx s 6, cx s 7⟩ (fun hHeld => ?_)
              clear hK K
              refine nrm 84 ?_
              refine pu 5 79 ?_
              refine pu 6 85 ?_
              refine pu 7 86 ?_
              exact norm_ (by simp only [putAll, Act.put, List.setIfInBounds_toArray, List.set_cons_zero, List.set_cons_succ]) (hCont (.slice c3 bQ.length da, .slice d0 bR.length d1, b6, b7, bc) _ ⟨hHeld, (by (with_reducible repeat (first | apply Kd.R_alloc | apply Kd.R_drewN | apply Kd.R_drew)); exact Kd.R_mono aX.out (fun _ hk => ⟨hk.2, ⟨hk.1.1.1.2, ⟨hk.1.1.2, hk.1.2⟩⟩⟩)), (by (with_reducible repeat (first | apply Kd.R_alloc | apply Kd.R_drewN | apply Kd.R_drew)); exact Kd.R_mono aY.out (fun _ hk => ⟨hk.2, ⟨hk.1.1.1.2, ⟨hk.1.1.2, hk.1.2⟩⟩⟩)), (by (with_reducible repeat (first | apply Kd.R_alloc | apply Kd.R_drewN | apply Kd.R_drew)); exact Kd.R_mono bB.out (fun _ hk => ⟨hk.2, ⟨hk.1.1.1.2, ⟨hk.1.1.2, hk.1.2⟩⟩⟩)), (by (with_reducible repeat (first | apply Kd.R_alloc | apply Kd.R_drewN | apply Kd.R_drew)); exact Kd.R_mono bC.out (fun _ hk => ⟨hk.2, ⟨hk.1.1.1.2, ⟨hk.1.1.2, hk.1.2⟩⟩⟩)), (by (with_reducible repeat (first | apply Kd.R_alloc | apply Kd.R_drewN | apply Kd.R_drew)); exact Kd.R_mono ab.out (fun _ hk => ⟨hk.1.2, ⟨hk.2, ⟨hk.1.1.1, hk.1.1.2⟩⟩⟩)), (by (with_reducible repeat (first | apply Kd.R_alloc | apply Kd.R_drewN | apply Kd.R_drew)); exact Kd.R_mono ac.out (fun _ hk => ⟨hk.1.2, ⟨hk.2, ⟨hk.1.1.1, hk.1.1.2⟩⟩⟩)), (by (with_reducible repeat (first | apply Kd.R_alloc | apply Kd.R_drewN | apply Kd.R_drew)); exact Kd.R_mono Z.out (fun _ hk => ⟨hk.1.2, ⟨hk.2, ⟨hk.1.1.1, hk.1.1.2⟩⟩⟩)), (by (with_reducible repeat (first | apply Kd.R_alloc | apply Kd.R_drewN | apply Kd.R_drew)); exact Kd.R_mono aa.out (fun _ hk => ⟨hk.1.2, ⟨hk.2, ⟨hk.1.1.1, hk.1.1.2⟩⟩⟩)), (by (with_reducible repeat (first | apply Kd.R_alloc | apply Kd.R_drewN | apply Kd.R_drew)); exact Kd.R_mono L.out (fun _ hk => ⟨hk.1.2, ⟨hk.2, ⟨hk.1.1.1, hk.1.1.2⟩⟩⟩)), (by (with_reducible repeat (first | apply Kd.R_alloc | apply Kd.R_drewN | apply Kd.R_drew)); exact Kd.R_mono M.out (fun _ hk => ⟨hk.1.2, ⟨hk.2, ⟨hk.1.1.1, hk.1.1.2⟩⟩⟩)), (bf z.out), (bf s.out), (bf D.out), (bf G.out), (bf I.out), (bf aq.out), dY.out, dZ.out, bS.out, cN.out, bu.out, cO.out, cP.out, cQ.out, cR.out, cS.out, b8.out, b9.out, (bs HB.out)⟩)
            ·skip
             refine box_step ?hg (N := 14) ?hd (cs := #[.slice none 0 0, .slice none 0 0]) (t := 34) ?hr ?_; (case hd => rfl); (case hg => rfl); (case hr => first | (go_simp; done) | (go_simp; rfl))
             intro bc hg hM hbox hb
             replace ab := rb ab hb
             replace ac := rb ac hb
             replace Z := rb Z hb
             replace aa := rb aa hb
             replace L := rb L hb
             replace M := rb M hb
             have aq := am hbox
             have dY := gwb HB hg
             have dZ := gwb HB hg
             replace HB := hs HB hb
             have bS := nq z hg
             have cN := nq' z hg
             replace z := bb z hb rfl
             have bu := nq s hg
             have cO := nq' s hg
             replace s := bb s hb rfl
             have cP := nq D hg
             have cQ := nq' D hg
             replace D := bb D hb rfl
             have cR := nq G hg
             have cS := nq' G hg
             replace G := bb G hb rfl
             have b8 := nq I hg
             have b9 := nq' I hg
             replace I := bb I hb rfl
             clear hb hbox hg
             refine hK.out _ _ ⟨cx z 0, cx z 1, cx s 0, cx s 1, cx s 2, cx s 3, cx s 4, cx s 5, cx s 6, cx s 7⟩ (fun hHeld => ?_)
             clear hK K
             refine nrm 14 ?_
             refine on 1 81 (fun K hK => ?_)
             refine gs Try.func18 #[.agg #[.slice bg ar.length bh, .slice bi au.length bj]] ?_
             with_reducible refine (laws_toGraph.calls bE _ _ ar _ _ au bQ bR _ ?av ?aw ?ax ?aL f7.out).mono ?_
             (case av => exact Kd.C_below dv.out (bs HB.out))
             (case aw => exact dw.out)
             (case ax => exact Kd.C_below dx.out (bs HB.out))
             (case aL => exact dy.out)
             rintro e ga ⟨cZ, c0, rfl, X, Y, hb⟩
             refine ⟨_, rfl, ?_⟩
             have aX := am (Kd.R_lower (Kd.R_new' (Kd.R_new' (Kd.R_new' X (rk ab)) (rk Z)) (rk L)) (below_size (bs HB.out)))
             replace ab := re ab X hb
             replace Z := re Z X hb
             replace L := re L X hb
             have aY := am (Kd.R_lower (Kd.R_new' (Kd.R_new' (Kd.R_new' Y (rk ac)) (rk aa)) (rk M)) (below_size (bs HB.out)))
             replace ac := re ac Y hb
             replace aa := re aa Y hb
             replace M := re M Y hb
             replace z := bb z hb rfl
             replace s := bb s hb rfl
             replace D := bb D hb rfl
             replace G := bb G hb rfl
             replace I := bb I hb rfl
             replace aq := bb aq hb rfl
             replace HB := hs HB hb
             (try clear hb)
             (try clear hb2)
             (try clear hk)
             (try clear hi)
             (try clear X)
             (try clear Y)
             refine hK.out _ _ ⟨cx z 0, cx z 1, cx s 0, cx s 1, cx s 2, cx s 3, cx s 4, cx s 5, cx s 6, cx s 7⟩ (fun hHeld => ?_)
             clear hK K
             refine nrm 81 ?_
             refine on 3 83 (fun K hK => ?_)
             refine gs Try.func52 #[.agg #[.int .i64 aA, .int .i64 aB, .int .i64 aC, .int .i64 aD, .int .i64 aE, .int .i64 aF, .int .i64 aG, .int .i64 aH]] ?_
             with_reducible refine (laws_toOp.calls aA aB aC aD aE aF aG aH cF cG cH cI cJ cK cL cM _ e7.out).mono ?_
             rintro e gg ⟨rfl, hb⟩
             refine ⟨_, rfl, ?_⟩
             replace ab := rb ab hb
             replace ac := rb ac hb
             replace Z := rb Z hb
             replace aa := rb aa hb
             replace L := rb L hb
             replace M := rb M hb
             replace aX := rb aX hb
             replace aY := rb aY hb
             replace z := bb z hb rfl
             replace s := bb s hb rfl
             replace D := bb D hb rfl
             replace G := bb G hb rfl
             replace I := bb I hb rfl
             replace aq := bb aq hb rfl
             replace HB := hs HB hb
             (try clear hb)
             (try clear hb2)
             (try clear hk)
             (try clear hi)
             obtain ⟨c3, da, db⟩ := Kd.R_slice aX.out
             (first | subst db | (injection db with an aS ao; have aT := an.symm; have aU := ao.symm; clear an aS ao; subst aT; subst aU))
             obtain ⟨d0, d1, d2⟩ := Kd.R_slice aY.out
             (first | subst d2 | (injection d2 with an aS ao; have aT := an.symm; have aU := ao.symm; clear an aS ao; subst aT; subst aU))
             refine hK.out _ _ ⟨cx z 0, cx z 1, cx s 0, cx s 1, cx s 2, cx s 3, cx s 4, cx s 5, cx s 6, cx s 7⟩ (fun hHeld => ?_)
             clear hK K
             refine nrm 83 ?_
             refine on 4 84 (fun K hK => ?_)
             refine gs Try.func53 #[.agg #[.slice c3 bQ.length da, .slice d0 bR.length d1], .agg #[.int .i64 cF, .int .i64 cG, .int .i64 cH, .int .i64 cI, .int .i64 cJ, .int .i64 cK, .int .i64 cL, .int .i64 cM]] ?_
             with_reducible refine (impl_GraphDo.calls bE _ _ bQ _ _ bR cF cG cH cI cJ cK cL cM bv bw du _ ?av ?aw ?ax ?aL eN.out).mono ?_
             (case av => exact cr aX)
             (case aw => exact cc aX)
             (case ax => exact cr aY)
             (case aL => exact cc aY)
             rintro e e9 ⟨b6, b7, rfl, X, Y, hb⟩
             refine ⟨_, rfl, ?_⟩
             have bB := am (Kd.R_lower (Kd.R_new' (Kd.R_new' (Kd.R_new' (Kd.R_new' X (rk ab)) (rk Z)) (rk L)) (rk aX)) (below_size (bs HB.out)))
             replace ab := re ab X hb
             replace Z := re Z X hb
             replace L := re L X hb
             replace aX := re aX X hb
             have bC := am (Kd.R_lower (Kd.R_new' (Kd.R_new' (Kd.R_new' (Kd.R_new' Y (rk ac)) (rk aa)) (rk M)) (rk aY)) (below_size (bs HB.out)))
             replace ac := re ac Y hb
             replace aa := re aa Y hb
             replace M := re M Y hb
             replace aY := re aY Y hb
             replace z := bb z hb rfl
             replace s := bb s hb rfl
             replace D := bb D hb rfl
             replace G := bb G hb rfl
             replace I := bb I hb rfl
             replace aq := bb aq hb rfl
             replace HB := hs HB hb
             (try clear hb)
             (try clear hb2)
             (try clear hk)
             (try clear hi)
             (try clear X)
             (try clear Y)
             refine hK.out _ _ ⟨cx z 0, cx z 1, cx s 0, cx s 1, cx s 2, cx s 3, cx s 4, cx s 5, cx s 6, cx s 7⟩ (fun hHeld => ?_)
             clear hK K
             refine nrm 84 ?_
             refine pu 5 79 ?_
             refine pu 6 85 ?_
             refine pu 7 86 ?_
             exact norm_ (by simp only [putAll, Act.put, List.setIfInBounds_toArray, List.set_cons_zero, List.set_cons_succ]) (hCont (.slice c3 bQ.length da, .slice d0 bR.length d1, b6, b7, bc) _ ⟨hHeld, (by (with_reducible repeat (first | apply Kd.R_alloc | apply Kd.R_drewN | apply Kd.R_drew)); exact Kd.R_mono aX.out (fun _ hk => ⟨hk.2, ⟨hk.1.1.1.2, ⟨hk.1.1.2, hk.1.2⟩⟩⟩)), (by (with_reducible repeat (first | apply Kd.R_alloc | apply Kd.R_drewN | apply Kd.R_drew)); exact Kd.R_mono aY.out (fun _ hk => ⟨hk.2, ⟨hk.1.1.1.2, ⟨hk.1.1.2, hk.1.2⟩⟩⟩)), (by (with_reducible repeat (first | apply Kd.R_alloc | apply Kd.R_drewN | apply Kd.R_drew)); exact Kd.R_mono bB.out (fun _ hk => ⟨hk.2, ⟨hk.1.1.1.2, ⟨hk.1.1.2, hk.1.2⟩⟩⟩)), (by (with_reducible repeat (first | apply Kd.R_alloc | apply Kd.R_drewN | apply Kd.R_drew)); exact Kd.R_mono bC.out (fun _ hk => ⟨hk.2, ⟨hk.1.1.1.2, ⟨hk.1.1.2, hk.1.2⟩⟩⟩)), (by (with_reducible repeat (first | apply Kd.R_alloc | apply Kd.R_drewN | apply Kd.R_drew)); exact Kd.R_mono ab.out (fun _ hk => ⟨hk.1.2, ⟨hk.2, ⟨hk.1.1.1, hk.1.1.2⟩⟩⟩)), (by (with_reducible repeat (first | apply Kd.R_alloc | apply Kd.R_drewN | apply Kd.R_drew)); exact Kd.R_mono ac.out (fun _ hk => ⟨hk.1.2, ⟨hk.2, ⟨hk.1.1.1, hk.1.1.2⟩⟩⟩)), (by (with_reducible repeat (first | apply Kd.R_alloc | apply Kd.R_drewN | apply Kd.R_drew)); exact Kd.R_mono Z.out (fun _ hk => ⟨hk.1.2, ⟨hk.2, ⟨hk.1.1.1, hk.1.1.2⟩⟩⟩)), (by (with_reducible repeat (first | apply Kd.R_alloc | apply Kd.R_drewN | apply Kd.R_drew)); exact Kd.R_mono aa.out (fun _ hk => ⟨hk.1.2, ⟨hk.2, ⟨hk.1.1.1, hk.1.1.2⟩⟩⟩)), (by (with_reducible repeat (first | apply Kd.R_alloc | apply Kd.R_drewN | apply Kd.R_drew)); exact Kd.R_mono L.out (fun _ hk => ⟨hk.1.2, ⟨hk.2, ⟨hk.1.1.1, hk.1.1.2⟩⟩⟩)), (by (with_reducible repeat (first | apply Kd.R_alloc | apply Kd.R_drewN | apply Kd.R_drew)); exact Kd.R_mono M.out (fun _ hk => ⟨hk.1.2, ⟨hk.2, ⟨hk.1.1.1, hk.1.1.2⟩⟩⟩)), (bf z.out), (bf s.out), (bf D.out), (bf G.out), (bf I.out), (bf aq.out), dY.out, dZ.out, bS.out, cN.out, bu.out, cO.out, cP.out, cQ.out, cR.out, cS.out, b8.out, b9.out, (bs HB.out)⟩)
           rintro ⟨cZ, c0, b6, b7, bc⟩ bk ⟨hS_, dE, dF, dG, dH, dI, dJ, dK, dL, dM, dN, dO, dP, dQ, dR, ed, ee, ef, eg, eh, ei, ej, ek, el, em, gh, gi, gj, gk, gm⟩
           have co : Aside0 (Kd.R k36 36 bk w.heap.size (fun k_ => some k_ ≠ (b6 : Value).ownBlock ∧ some k_ ≠ (.slice aM O.length ay : Value).ownBlock ∧ some k_ ≠ (.slice af bo.length ag : Value).ownBlock ∧ some k_ ≠ (.slice aV aj.length aQ : Value).ownBlock) cZ bQ) := ⟨dE⟩
           have cp : Aside0 (Kd.R k56 56 bk w.heap.size (fun k_ => some k_ ≠ (b7 : Value).ownBlock ∧ some k_ ≠ (.slice aN T.length az : Value).ownBlock ∧ some k_ ≠ (.slice ah br.length ai : Value).ownBlock ∧ some k_ ≠ (.slice aW ak.length aR : Value).ownBlock) c0 bR) := ⟨dF⟩
           have ct : Aside0 (Kd.R k36 36 bk w.heap.size (fun k_ => some k_ ≠ (cZ : Value).ownBlock ∧ some k_ ≠ (.slice aM O.length ay : Value).ownBlock ∧ some k_ ≠ (.slice af bo.length ag : Value).ownBlock ∧ some k_ ≠ (.slice aV aj.length aQ : Value).ownBlock) b6 bv) := ⟨dG⟩
           have cu : Aside0 (Kd.R k56 56 bk w.heap.size (fun k_ => some k_ ≠ (c0 : Value).ownBlock ∧ some k_ ≠ (.slice aN T.length az : Value).ownBlock ∧ some k_ ≠ (.slice ah br.length ai : Value).ownBlock ∧ some k_ ≠ (.slice aW ak.length aR : Value).ownBlock) b7 bw) := ⟨dH⟩
           have cv : Aside0 (Kd.R k36 36 bk w.heap.size (fun k_ => some k_ ≠ (cZ : Value).ownBlock ∧ some k_ ≠ (b6 : Value).ownBlock ∧ some k_ ≠ (.slice af bo.length ag : Value).ownBlock ∧ some k_ ≠ (.slice aV aj.length aQ : Value).ownBlock) (.slice aM O.length ay) O) := ⟨dI⟩
           have cy : Aside0 (Kd.R k56 56 bk w.heap.size (fun k_ => some k_ ≠ (c0 : Value).ownBlock ∧ some k_ ≠ (b7 : Value).ownBlock ∧ some k_ ≠ (.slice ah br.length ai : Value).ownBlock ∧ some k_ ≠ (.slice aW ak.length aR : Value).ownBlock) (.slice aN T.length az) T) := ⟨dJ⟩
           have cz : Aside0 (Kd.R k36 36 bk w.heap.size (fun k_ => some k_ ≠ (cZ : Value).ownBlock ∧ some k_ ≠ (b6 : Value).ownBlock ∧ some k_ ≠ (.slice aM O.length ay : Value).ownBlock ∧ some k_ ≠ (.slice aV aj.length aQ : Value).ownBlock) (.slice af bo.length ag) bo) := ⟨dK⟩
           have cA : Aside0 (Kd.R k56 56 bk w.heap.size (fun k_ => some k_ ≠ (c0 : Value).ownBlock ∧ some k_ ≠ (b7 : Value).ownBlock ∧ some k_ ≠ (.slice aN T.length az : Value).ownBlock ∧ some k_ ≠ (.slice aW ak.length aR : Value).ownBlock) (.slice ah br.length ai) br) := ⟨dL⟩
           have cB : Aside0 (Kd.R k36 36 bk w.heap.size (fun k_ => some k_ ≠ (cZ : Value).ownBlock ∧ some k_ ≠ (b6 : Value).ownBlock ∧ some k_ ≠ (.slice aM O.length ay : Value).ownBlock ∧ some k_ ≠ (.slice af bo.length ag : Value).ownBlock) (.slice aV aj.length aQ) bZ) := ⟨dM⟩
           have cC : Aside0 (Kd.R k56 56 bk w.heap.size (fun k_ => some k_ ≠ (c0 : Value).ownBlock ∧ some k_ ≠ (b7 : Value).ownBlock ∧ some k_ ≠ (.slice aN T.length az : Value).ownBlock ∧ some k_ ≠ (.slice ah br.length ai : Value).ownBlock) (.slice aW ak.length aR) b0) := ⟨dN⟩
           have cD : Aside0 (bk.heap[be]? = some (.cells #[.slice bg ar.length bh, .slice bi au.length bj] 25 (0, 0))) := ⟨dO⟩
           have dS : Aside0 (bk.heap[J]? = some (.cells #[.int .i64 aA, .int .i64 aB, .int .i64 aC, .int .i64 aD, .int .i64 aE, .int .i64 aF, .int .i64 aG, .int .i64 aH] 72 (0, 0))) := ⟨dP⟩
           have dT : Aside0 (bk.heap[aI]? = some (.cells #[.slice aM O.length ay, .slice aN T.length az] 34 (0, 0))) := ⟨dQ⟩
           have dU : Aside0 (bk.heap[aO]? = some (.cells #[.slice af bo.length ag, .slice ah br.length ai] 34 (0, 0))) := ⟨dR⟩
           have en : Aside0 (bk.heap[aP]? = some (.cells #[.slice aV aj.length aQ, .slice aW ak.length aR] 34 (0, 0))) := ⟨ed⟩
           have eo : Aside0 (bk.heap[bc]? = some (.cells #[.slice none 0 0, .slice none 0 0] 34 (0, 0))) := ⟨ee⟩
           have ep : Ge w bc := ⟨ef⟩
           have eq : Ge w bc := ⟨eg⟩
           have er : Nq be bc := ⟨eh⟩
           have es : Nq bc be := ⟨ei⟩
           have et : Nq J bc := ⟨ej⟩
           have eu : Nq bc J := ⟨ek⟩
           have ev : Nq aI bc := ⟨el⟩
           have ew : Nq bc aI := ⟨em⟩
           have gn : Nq aO bc := ⟨gh⟩
           have go : Nq bc aO := ⟨gi⟩
           have gp : Nq aP bc := ⟨gj⟩
           have gq : Nq bc aP := ⟨gk⟩
           have gt : Aside0 (Below w.heap.size w bk) := ⟨gm⟩
           clear ab
           clear ac
           clear Z
           clear aa
           clear L
           clear M
           clear z
           clear s
           clear D
           clear G
           clear I
           clear HB
           clear dE dF dG dH dI dJ dK dL dM dN dO dP dQ dR ed ee ef eg eh ei ej ek el em gh gi gj gk gm
           have aX := co
           have aY := cp
           have bB := ct
           have bC := cu
           have ab := cv
           have ac := cy
           have Z := cz
           have aa := cA
           have L := cB
           have M := cC
           have z := cD
           have s := dS
           have D := dT
           have G := dU
           have I := en
           have aq := eo
           have dY := ep
           have dZ := eq
           have bS := er
           have cN := es
           have bu := et
           have cO := eu
           have cP := ev
           have cQ := ew
           have cR := gn
           have cS := go
           have b8 := gp
           have b9 := gq
           have HB := gt
           clear co cp ct cu cv cy cz cA cB cC cD dS dT dU en eo ep eq er es et eu ev ew gn go gp gq gt
           have hHeld : bk.cell? ⟨be, 0, none⟩ = some (.slice bg ar.length bh) ∧ bk.cell? ⟨be, 1, none⟩ = some (.slice bi au.length bj) ∧ bk.cell? ⟨J, 0, none⟩ = some (.int .i64 aA) ∧ bk.cell? ⟨J, 1, none⟩ = some (.int .i64 aB) ∧ bk.cell? ⟨J, 2, none⟩ = some (.int .i64 aC) ∧ bk.cell? ⟨J, 3, none⟩ = some (.int .i64 aD) ∧ bk.cell? ⟨J, 4, none⟩ = some (.int .i64 aE) ∧ bk.cell? ⟨J, 5, none⟩ = some (.int .i64 aF) ∧ bk.cell? ⟨J, 6, none⟩ = some (.int .i64 aG) ∧ bk.cell? ⟨J, 7, none⟩ = some (.int .i64 aH) := hS_
           obtain ⟨dc, ce, gu⟩ := Kd.R_slice bB.out
           (first | subst gu | (injection gu with an aS ao; have aT := an.symm; have aU := ao.symm; clear an aS ao; subst aT; subst aU))
           obtain ⟨dd, cf, gv⟩ := Kd.R_slice bC.out
           (first | subst gv | (injection gv with an aS ao; have aT := an.symm; have aU := ao.symm; clear an aS ao; subst aT; subst aU))
           refine norm_ (a' := ?_) ?_ ?_
           rotate_left
           ·simp only [putAll, Act.put, List.setIfInBounds_toArray, List.set_cons_zero, List.set_cons_succ]
            rfl
           refine on0 9 (fun K hK => ?_)
           have k9 : bk.cell? ⟨bc, 0, none⟩ = some (.slice none 0 0) := cx aq 0
           have lb := blk_frozen aq.out 0
           have lc := bS.out
           have ld := bu.out
           have le := cP.out
           have lf := cR.out
           have lg := b8.out
           have lh := cN.out
           have li := cO.out
           have lj := cQ.out
           have lk := cS.out
           have ll := b9.out
           have lm : bk.cell? ⟨bc, 1, none⟩ = some (.slice none 0 0) := cx aq 1
           have ln := blk_frozen aq.out 1
           have lo := bS.out
           have lp := bu.out
           have lq := cP.out
           have lr := cR.out
           have ls := b8.out
           have lt := cN.out
           have lu := cO.out
           have lv := cQ.out
           have lw := cS.out
           have lx := b9.out
           refine sk ?_
           refine hK.out _ _ ⟨((cell_far (p := ⟨bc, _, none⟩) bS.out _).trans (((cell_far (p := ⟨bc, _, none⟩) bS.out _).trans (hHeld.1)))), ((cell_far (p := ⟨bc, _, none⟩) bS.out _).trans (((cell_far (p := ⟨bc, _, none⟩) bS.out _).trans (hHeld.2.1)))), ((cell_far (p := ⟨bc, _, none⟩) bu.out _).trans (((cell_far (p := ⟨bc, _, none⟩) bu.out _).trans (hHeld.2.2.1)))), ((cell_far (p := ⟨bc, _, none⟩) bu.out _).trans (((cell_far (p := ⟨bc, _, none⟩) bu.out _).trans (hHeld.2.2.2.1)))), ((cell_far (p := ⟨bc, _, none⟩) bu.out _).trans (((cell_far (p := ⟨bc, _, none⟩) bu.out _).trans (hHeld.2.2.2.2.1)))), ((cell_far (p := ⟨bc, _, none⟩) bu.out _).trans (((cell_far (p := ⟨bc, _, none⟩) bu.out _).trans (hHeld.2.2.2.2.2.1)))), ((cell_far (p := ⟨bc, _, none⟩) bu.out _).trans (((cell_far (p := ⟨bc, _, none⟩) bu.out _).trans (hHeld.2.2.2.2.2.2.1)))), ((cell_far (p := ⟨bc, _, none⟩) bu.out _).trans (((cell_far (p := ⟨bc, _, none⟩) bu.out _).trans (hHeld.2.2.2.2.2.2.2.1)))), ((cell_far (p := ⟨bc, _, none⟩) bu.out _).trans (((cell_far (p := ⟨bc, _, none⟩) bu.out _).trans (hHeld.2.2.2.2.2.2.2.2.1)))), ((cell_far (p := ⟨bc, _, none⟩) bu.out _).trans (((cell_far (p := ⟨bc, _, none⟩) bu.out _).trans (hHeld.2.2.2.2.2.2.2.2.2))))⟩ (fun hHeld => ?_)
           clear hK K
           refine pu 10 15 ?_
           refine dn ?_
           go_upto_region 25 with (fail)
           go_cut [95] (fun hO wc => ∃ (kq : Nat) (eO : Bool), hO = .bool eO ∧ Aside0 (laws_FnExactGraphDo.j2 kq bV eO bZ b0 = some r) ∧ Aside0 (kq ≤ bE) ∧ Aside0 (Kd.R k36 36 wc w.heap.size (fun k_ => some k_ ≠ ((.slice af bo.length ag) : Value).ownBlock ∧ some k_ ≠ ((.slice aV aj.length aQ) : Value).ownBlock ∧ some k_ ≠ ((.slice dc bv.length ce) : Value).ownBlock) (.slice aM O.length ay) O) ∧ Aside0 (Kd.R k56 56 wc w.heap.size (fun k_ => some k_ ≠ ((.slice ah br.length ai) : Value).ownBlock ∧ some k_ ≠ ((.slice aW ak.length aR) : Value).ownBlock ∧ some k_ ≠ ((.slice dd bw.length cf) : Value).ownBlock) (.slice aN T.length az) T) ∧ Aside0 (Kd.R k36 36 wc w.heap.size (fun k_ => some k_ ≠ ((.slice aM O.length ay) : Value).ownBlock ∧ some k_ ≠ ((.slice aV aj.length aQ) : Value).ownBlock ∧ some k_ ≠ ((.slice dc bv.length ce) : Value).ownBlock) (.slice af bo.length ag) bo) ∧ Aside0 (Kd.R k56 56 wc w.heap.size (fun k_ => some k_ ≠ ((.slice aN T.length az) : Value).ownBlock ∧ some k_ ≠ ((.slice aW ak.length aR) : Value).ownBlock ∧ some k_ ≠ ((.slice dd bw.length cf) : Value).ownBlock) (.slice ah br.length ai) br) ∧ Aside0 (Kd.R k36 36 wc w.heap.size (fun k_ => some k_ ≠ ((.slice aM O.length ay) : Value).ownBlock ∧ some k_ ≠ ((.slice af bo.length ag) : Value).ownBlock ∧ some k_ ≠ ((.slice dc bv.length ce) : Value).ownBlock) (.slice aV aj.length aQ) bZ) ∧ Aside0 (Kd.R k56 56 wc w.heap.size (fun k_ => some k_ ≠ ((.slice aN T.length az) : Value).ownBlock ∧ some k_ ≠ ((.slice ah br.length ai) : Value).ownBlock ∧ some k_ ≠ ((.slice dd bw.length cf) : Value).ownBlock) (.slice aW ak.length aR) b0) ∧ Aside0 (Kd.R k36 36 wc w.heap.size (fun k_ => some k_ ≠ ((.slice aM O.length ay) : Value).ownBlock ∧ some k_ ≠ ((.slice af bo.length ag) : Value).ownBlock ∧ some k_ ≠ ((.slice aV aj.length aQ) : Value).ownBlock) (.slice dc bv.length ce) bv) ∧ Aside0 (Kd.R k56 56 wc w.heap.size (fun k_ => some k_ ≠ ((.slice aN T.length az) : Value).ownBlock ∧ some k_ ≠ ((.slice ah br.length ai) : Value).ownBlock ∧ some k_ ≠ ((.slice aW ak.length aR) : Value).ownBlock) (.slice dd bw.length cf) bw) ∧ Aside0 (wc.heap[be]? = some (.cells #[(.slice bg ar.length bh), (.slice bi au.length bj)] 25 (0, 0))) ∧ Aside0 (wc.heap[J]? = some (.cells #[.int .i64 aA, .int .i64 aB, .int .i64 aC, .int .i64 aD, .int .i64 aE, .int .i64 aF, .int .i64 aG, .int .i64 aH] 72 (0, 0))) ∧ Aside0 (wc.heap[aI]? = some (.cells #[(.slice aM O.length ay), (.slice aN T.length az)] 34 (0, 0))) ∧ Aside0 (wc.heap[aO]? = some (.cells #[(.slice af bo.length ag), (.slice ah br.length ai)] 34 (0, 0))) ∧ Aside0 (wc.heap[aP]? = some (.cells #[(.slice aV aj.length aQ), (.slice aW ak.length aR)] 34 (0, 0))) ∧ Aside0 (wc.heap[bc]? = some (.cells #[(.slice dc bv.length ce), (.slice dd bw.length cf)] 34 (0, 0))) ∧ Aside0 (Below w.heap.size w wc))
           case first =>
            have H := e8.out
            clear e8
            replace H := Option.bind_eq_some_iff.mp H
            obtain ⟨e6, gw, H⟩ := H
            try dsimp -simprocs only at H
            have gx := am gw
            clear gw
            by_cases eG : e6 = true
            ·subst eG
             replace H : (laws_FnExactGraphDo.j2 bE bV (du != bt) bZ b0) = some r := by rw [if_pos rfl] at H; exact H
             have H' := am H
             clear H
             have ly := cN.out
             have lz := bS.out
             have lA := cO.out
             have lB := bu.out
             have lC := cQ.out
             have lD := cP.out
             have lE := cS.out
             have lF := cR.out
             have lG := b9.out
             have lH := b8.out
             obtain ⟨hP, hR⟩ := bc2 (w := bk) aq.out
             have hU := blk_frozen aq.out
             have lI := bM.out
             have lJ := bz.out
             have lK := bN.out
             have lL := bl.out
             have lM := dV.out
             have lN := dW.out
             have lO := bO.out
             have lP := bP.out
             obtain ⟨hV, hW⟩ := bc2 (w := bk) D.out
             have hX := blk_frozen D.out
             go_wp2_with (first | ((with_reducible refine gc 22 rfl ?_); refine gl 89 Try.func22 #[.agg #[.slice dc bv.length ce, .slice dd bw.length cf], .agg #[.slice aM O.length ay, .slice aN T.length az]] ?_; (with_reducible refine (laws_eqGraph.calls bE _ _ bv _ _ bw _ _ O _ _ T true _ ?av ?aw ?ax ?aL ?b2 ?b3 ?b4 ?b5 gx.out).mono ?_); (case av => refine (Kd.R_reads' (e := 36) (base := w.heap.size) (ok := fun k_ => (some k_ ≠ (cZ : Value).ownBlock ∧ (some k_ ≠ (.slice aM O.length ay : Value).ownBlock ∧ (some k_ ≠ (.slice af bo.length ag : Value).ownBlock ∧ some k_ ≠ (.slice aV aj.length aQ : Value).ownBlock)))) (n := bv.length) (c := ce) ?_).2.2; exact (rt bB.out aq.out (by decide))); (case aw => exact cc bB); (case ax => refine (Kd.R_reads' (e := 56) (base := w.heap.size) (ok := fun k_ => (some k_ ≠ (c0 : Value).ownBlock ∧ (some k_ ≠ (.slice aN T.length az : Value).ownBlock ∧ (some k_ ≠ (.slice ah br.length ai : Value).ownBlock ∧ some k_ ≠ (.slice aW ak.length aR : Value).ownBlock)))) (n := bw.length) (c := cf) ?_).2.2; exact (rt bC.out aq.out (by decide))); (case aL => exact cc bC); (case b2 => refine (Kd.R_reads' (e := 36) (base := w.heap.size) (ok := fun k_ => (some k_ ≠ (cZ : Value).ownBlock ∧ (some k_ ≠ (.slice dc bv.length ce : Value).ownBlock ∧ (some k_ ≠ (.slice af bo.length ag : Value).ownBlock ∧ some k_ ≠ (.slice aV aj.length aQ : Value).ownBlock)))) (n := O.length) (c := ay) ?_).2.2; exact (rt ab.out aq.out (by decide))); (case b3 => exact cc ab); (case b4 => refine (Kd.R_reads' (e := 56) (base := w.heap.size) (ok := fun k_ => (some k_ ≠ (c0 : Value).ownBlock ∧ (some k_ ≠ (.slice dd bw.length cf : Value).ownBlock ∧ (some k_ ≠ (.slice ah br.length ai : Value).ownBlock ∧ some k_ ≠ (.slice aW ak.length aR : Value).ownBlock)))) (n := T.length) (c := az) ?_).2.2; exact (rt ac.out aq.out (by decide))); (case b5 => exact cc ac); rintro e lQ ⟨rfl, hb⟩; refine ⟨_, rfl, ?_⟩; replace ab := am (Kd.R_below (rt ab.out aq.out (by decide)) hb); replace ac := am (Kd.R_below (rt ac.out aq.out (by decide)) hb); replace Z := am (Kd.R_below (rt Z.out aq.out (by decide)) hb); replace aa := am (Kd.R_below (rt aa.out aq.out (by decide)) hb); replace L := am (Kd.R_below (rt L.out aq.out (by decide)) hb); replace M := am (Kd.R_below (rt M.out aq.out (by decide)) hb); replace aX := am (Kd.R_below (rt aX.out aq.out (by decide)) hb); replace aY := am (Kd.R_below (rt aY.out aq.out (by decide)) hb); replace bB := am (Kd.R_below (rt bB.out aq.out (by decide)) hb); replace bC := am (Kd.R_below (rt bC.out aq.out (by decide)) hb); replace z := am (blk_below (g := be) (o := .cells #[.slice bg ar.length bh, .slice bi au.length bj] 25 (0, 0)) (bf z.out) hb); replace s := am (blk_below (g := J) (o := .cells #[.int .i64 aA, .int .i64 aB, .int .i64 aC, .int .i64 aD, .int .i64 aE, .int .i64 aF, .int .i64 aG, .int .i64 aH] 72 (0, 0)) (bf s.out) hb); replace D := am (blk_below (g := aI) (o := .cells #[.slice aM O.length ay, .slice aN T.length az] 34 (0, 0)) (bf D.out) hb); replace G := am (blk_below (g := aO) (o := .cells #[.slice af bo.length ag, .slice ah br.length ai] 34 (0, 0)) (bf G.out) hb); replace I := am (blk_below (g := aP) (o := .cells #[.slice aV aj.length aQ, .slice aW ak.length aR] 34 (0, 0)) (bf I.out) hb); replace aq := bq #[.slice dc bv.length ce, .slice dd bw.length cf] aq hb; replace HB := hs HB hb; (try clear hb); (try clear hb2); (try clear hk); (try clear hi)))
             go_meet
             case rel => exact ⟨_, ((du != bt)), eqs, H', ⟨by have := ex.out; have := f2.out; first | omega | exact Nat.le_refl _⟩, ⟨by (try simp only [hl482000_80]); (try simp only [hl482001_80]); (with_reducible repeat (first | apply Kd.R_alloc | apply Kd.R_drewN | apply Kd.R_drew)); exact Kd.R_mono ab.out (fun _ hk => ⟨hk.2.2.1, ⟨hk.2.2.2, hk.2.1⟩⟩)⟩, ⟨by (try simp only [hl482000_80]); (try simp only [hl482001_80]); (with_reducible repeat (first | apply Kd.R_alloc | apply Kd.R_drewN | apply Kd.R_drew)); exact Kd.R_mono ac.out (fun _ hk => ⟨hk.2.2.1, ⟨hk.2.2.2, hk.2.1⟩⟩)⟩, ⟨by (try simp only [hl482000_80]); (try simp only [hl482001_80]); (with_reducible repeat (first | apply Kd.R_alloc | apply Kd.R_drewN | apply Kd.R_drew)); exact Kd.R_mono Z.out (fun _ hk => ⟨hk.2.2.1, ⟨hk.2.2.2, hk.2.1⟩⟩)⟩, ⟨by (try simp only [hl482000_80]); (try simp only [hl482001_80]); (with_reducible repeat (first | apply Kd.R_alloc | apply Kd.R_drewN | apply Kd.R_drew)); exact Kd.R_mono aa.out (fun _ hk => ⟨hk.2.2.1, ⟨hk.2.2.2, hk.2.1⟩⟩)⟩, ⟨by (try simp only [hl482000_80]); (try simp only [hl482001_80]); (with_reducible repeat (first | apply Kd.R_alloc | apply Kd.R_drewN | apply Kd.R_drew)); exact Kd.R_mono L.out (fun _ hk => ⟨hk.2.2.1, ⟨hk.2.2.2, hk.2.1⟩⟩)⟩, ⟨by (try simp only [hl482000_80]); (try simp only [hl482001_80]); (with_reducible repeat (first | apply Kd.R_alloc | apply Kd.R_drewN | apply Kd.R_drew)); exact Kd.R_mono M.out (fun _ hk => ⟨hk.2.2.1, ⟨hk.2.2.2, hk.2.1⟩⟩)⟩, ⟨by (try simp only [hl482000_80]); (try simp only [hl482001_80]); (with_reducible repeat (first | apply Kd.R_alloc | apply Kd.R_drewN | apply Kd.R_drew)); exact Kd.R_mono bB.out (fun _ hk => ⟨hk.2.1, ⟨hk.2.2.1, hk.2.2.2⟩⟩)⟩, ⟨by (try simp only [hl482000_80]); (try simp only [hl482001_80]); (with_reducible repeat (first | apply Kd.R_alloc | apply Kd.R_drewN | apply Kd.R_drew)); exact Kd.R_mono bC.out (fun _ hk => ⟨hk.2.1, ⟨hk.2.2.1, hk.2.2.2⟩⟩)⟩, ⟨by (try simp only [hl482000_80]); (try simp only [hl482001_80]); exact bf z.out⟩, ⟨by (try simp only [hl482000_80]); (try simp only [hl482001_80]); exact bf s.out⟩, ⟨by (try simp only [hl482000_80]); (try simp only [hl482001_80]); exact bf D.out⟩, ⟨by (try simp only [hl482000_80]); (try simp only [hl482001_80]); exact bf G.out⟩, ⟨by (try simp only [hl482000_80]); (try simp only [hl482001_80]); exact bf I.out⟩, ⟨by (try simp only [hl482000_80]); (try simp only [hl482001_80]); exact bf aq.out⟩, ⟨bs HB.out⟩⟩
            ·replace eG := Bool.eq_false_iff.mpr eG
             subst eG
             have H1 : (laws_FnExactGraphDo.j2 bE bV true bZ b0) = some r := by rw [if_neg (show ¬ (false = true) by decide)] at H; exact H
             clear H
             have H := H1
             clear H1
             have H' := am H
             clear H
             have lR := cN.out
             have lS := bS.out
             have lT := cO.out
             have lU := bu.out
             have lV := cQ.out
             have lW := cP.out
             have lX := cS.out
             have lY := cR.out
             have lZ := b9.out
             have l0 := b8.out
             obtain ⟨hY, hZ⟩ := bc2 (w := bk) aq.out
             have h0 := blk_frozen aq.out
             have l1 := bM.out
             have l2 := bz.out
             have l3 := bN.out
             have l4 := bl.out
             have l5 := dV.out
             have l6 := dW.out
             have l7 := bO.out
             have l8 := bP.out
             obtain ⟨h1, h2⟩ := bc2 (w := bk) D.out
             have h3 := blk_frozen D.out
             go_wp2_with (first | ((with_reducible refine gc 22 rfl ?_); refine gl 89 Try.func22 #[.agg #[.slice dc bv.length ce, .slice dd bw.length cf], .agg #[.slice aM O.length ay, .slice aN T.length az]] ?_; (with_reducible refine (laws_eqGraph.calls bE _ _ bv _ _ bw _ _ O _ _ T false _ ?av ?aw ?ax ?aL ?b2 ?b3 ?b4 ?b5 gx.out).mono ?_); (case av => refine (Kd.R_reads' (e := 36) (base := w.heap.size) (ok := fun k_ => (some k_ ≠ (cZ : Value).ownBlock ∧ (some k_ ≠ (.slice aM O.length ay : Value).ownBlock ∧ (some k_ ≠ (.slice af bo.length ag : Value).ownBlock ∧ some k_ ≠ (.slice aV aj.length aQ : Value).ownBlock)))) (n := bv.length) (c := ce) ?_).2.2; exact (rt bB.out aq.out (by decide))); (case aw => exact cc bB); (case ax => refine (Kd.R_reads' (e := 56) (base := w.heap.size) (ok := fun k_ => (some k_ ≠ (c0 : Value).ownBlock ∧ (some k_ ≠ (.slice aN T.length az : Value).ownBlock ∧ (some k_ ≠ (.slice ah br.length ai : Value).ownBlock ∧ some k_ ≠ (.slice aW ak.length aR : Value).ownBlock)))) (n := bw.length) (c := cf) ?_).2.2; exact (rt bC.out aq.out (by decide))); (case aL => exact cc bC); (case b2 => refine (Kd.R_reads' (e := 36) (base := w.heap.size) (ok := fun k_ => (some k_ ≠ (cZ : Value).ownBlock ∧ (some k_ ≠ (.slice dc bv.length ce : Value).ownBlock ∧ (some k_ ≠ (.slice af bo.length ag : Value).ownBlock ∧ some k_ ≠ (.slice aV aj.length aQ : Value).ownBlock)))) (n := O.length) (c := ay) ?_).2.2; exact (rt ab.out aq.out (by decide))); (case b3 => exact cc ab); (case b4 => refine (Kd.R_reads' (e := 56) (base := w.heap.size) (ok := fun k_ => (some k_ ≠ (c0 : Value).ownBlock ∧ (some k_ ≠ (.slice dd bw.length cf : Value).ownBlock ∧ (some k_ ≠ (.slice ah br.length ai : Value).ownBlock ∧ some k_ ≠ (.slice aW ak.length aR : Value).ownBlock)))) (n := T.length) (c := az) ?_).2.2; exact (rt ac.out aq.out (by decide))); (case b5 => exact cc ac); rintro e l9 ⟨rfl, hb⟩; refine ⟨_, rfl, ?_⟩; replace ab := am (Kd.R_below (rt ab.out aq.out (by decide)) hb); replace ac := am (Kd.R_below (rt ac.out aq.out (by decide)) hb); replace Z := am (Kd.R_below (rt Z.out aq.out (by decide)) hb); replace aa := am (Kd.R_below (rt aa.out aq.out (by decide)) hb); replace L := am (Kd.R_below (rt L.out aq.out (by decide)) hb); replace M := am (Kd.R_below (rt M.out aq.out (by decide)) hb); replace aX := am (Kd.R_below (rt aX.out aq.out (by decide)) hb); replace aY := am (Kd.R_below (rt aY.out aq.out (by decide)) hb); replace bB := am (Kd.R_below (rt bB.out aq.out (by decide)) hb); replace bC := am (Kd.R_below (rt bC.out aq.out (by decide)) hb); replace z := am (blk_below (g := be) (o := .cells #[.slice bg ar.length bh, .slice bi au.length bj] 25 (0, 0)) (bf z.out) hb); replace s := am (blk_below (g := J) (o := .cells #[.int .i64 aA, .int .i64 aB, .int .i64 aC, .int .i64 aD, .int .i64 aE, .int .i64 aF, .int .i64 aG, .int .i64 aH] 72 (0, 0)) (bf s.out) hb); replace D := am (blk_below (g := aI) (o := .cells #[.slice aM O.length ay, .slice aN T.length az] 34 (0, 0)) (bf D.out) hb); replace G := am (blk_below (g := aO) (o := .cells #[.slice af bo.length ag, .slice ah br.length ai] 34 (0, 0)) (bf G.out) hb); replace I := am (blk_below (g := aP) (o := .cells #[.slice aV aj.length aQ, .slice aW ak.length aR] 34 (0, 0)) (bf I.out) hb); replace aq := bq #[.slice dc bv.length ce, .slice dd bw.length cf] aq hb; replace HB := hs HB hb; (try clear hb); (try clear hb2); (try clear hk); (try clear hi)))
             go_meet
             case rel => exact ⟨_, (true), eqs, H', ⟨by have := ex.out; have := f2.out; first | omega | exact Nat.le_refl _⟩, ⟨by (try simp only [hl482000_80]); (try simp only [hl482001_80]); (with_reducible repeat (first | apply Kd.R_alloc | apply Kd.R_drewN | apply Kd.R_drew)); exact Kd.R_mono ab.out (fun _ hk => ⟨hk.2.2.1, ⟨hk.2.2.2, hk.2.1⟩⟩)⟩, ⟨by (try simp only [hl482000_80]); (try simp only [hl482001_80]); (with_reducible repeat (first | apply Kd.R_alloc | apply Kd.R_drewN | apply Kd.R_drew)); exact Kd.R_mono ac.out (fun _ hk => ⟨hk.2.2.1, ⟨hk.2.2.2, hk.2.1⟩⟩)⟩, ⟨by (try simp only [hl482000_80]); (try simp only [hl482001_80]); (with_reducible repeat (first | apply Kd.R_alloc | apply Kd.R_drewN | apply Kd.R_drew)); exact Kd.R_mono Z.out (fun _ hk => ⟨hk.2.2.1, ⟨hk.2.2.2, hk.2.1⟩⟩)⟩, ⟨by (try simp only [hl482000_80]); (try simp only [hl482001_80]); (with_reducible repeat (first | apply Kd.R_alloc | apply Kd.R_drewN | apply Kd.R_drew)); exact Kd.R_mono aa.out (fun _ hk => ⟨hk.2.2.1, ⟨hk.2.2.2, hk.2.1⟩⟩)⟩, ⟨by (try simp only [hl482000_80]); (try simp only [hl482001_80]); (with_reducible repeat (first | apply Kd.R_alloc | apply Kd.R_drewN | apply Kd.R_drew)); exact Kd.R_mono L.out (fun _ hk => ⟨hk.2.2.1, ⟨hk.2.2.2, hk.2.1⟩⟩)⟩, ⟨by (try simp only [hl482000_80]); (try simp only [hl482001_80]); (with_reducible repeat (first | apply Kd.R_alloc | apply Kd.R_drewN | apply Kd.R_drew)); exact Kd.R_mono M.out (fun _ hk => ⟨hk.2.2.1, ⟨hk.2.2.2, hk.2.1⟩⟩)⟩, ⟨by (try simp only [hl482000_80]); (try simp only [hl482001_80]); (with_reducible repeat (first | apply Kd.R_alloc | apply Kd.R_drewN | apply Kd.R_drew)); exact Kd.R_mono bB.out (fun _ hk => ⟨hk.2.1, ⟨hk.2.2.1, hk.2.2.2⟩⟩)⟩, ⟨by (try simp only [hl482000_80]); (try simp only [hl482001_80]); (with_reducible repeat (first | apply Kd.R_alloc | apply Kd.R_drewN | apply Kd.R_drew)); exact Kd.R_mono bC.out (fun _ hk => ⟨hk.2.1, ⟨hk.2.2.1, hk.2.2.2⟩⟩)⟩, ⟨by (try simp only [hl482000_80]); (try simp only [hl482001_80]); exact bf z.out⟩, ⟨by (try simp only [hl482000_80]); (try simp only [hl482001_80]); exact bf s.out⟩, ⟨by (try simp only [hl482000_80]); (try simp only [hl482001_80]); exact bf D.out⟩, ⟨by (try simp only [hl482000_80]); (try simp only [hl482001_80]); exact bf G.out⟩, ⟨by (try simp only [hl482000_80]); (try simp only [hl482001_80]); exact bf I.out⟩, ⟨by (try simp only [hl482000_80]); (try simp only [hl482001_80]); exact bf aq.out⟩, ⟨bs HB.out⟩⟩
           case rest =>
            clear e8
            try clear c1
            try clear c2
            try clear p2
            try clear c5
            try clear ma
            try clear mb
            try clear mc
            try clear hD
            try clear fR
            try clear fS
            try clear fT
            try clear eG
            try clear me
            try clear mf
            try clear mg
            try clear mh
            try clear mi
            try clear mj
            try clear mk
            try clear ml
            try clear mm
            try clear mn
            try clear mo
            try clear mq
            try clear mr
            try clear ms
            try clear mt
            try clear mu
            try clear mv
            try clear mw
            try clear hP hR
            try clear hV hW
            try clear hY hZ
            try clear h1 h2
            try clear hU
            try clear hX
            try clear h0
            try clear h3
            obtain ⟨kq, eO, rfl, HA, mx, ab, ac, Z, aa, L, M, eP, eQ, z, s, D, G, I, aq, HB⟩ := hcut
            have hl498000_123 := (Kd.R_reads' L.out).1
            rw [hl498000_123] at L
            (try simp only [hl498000_123])
            (try simp only [hl498000_123] at z)
            (try simp only [hl498000_123] at s)
            (try simp only [hl498000_123] at D)
            (try simp only [hl498000_123] at G)
            (try simp only [hl498000_123] at I)
            (try simp only [hl498000_123] at aq)
            (try simp only [hl498000_123] at ab)
            (try simp only [hl498000_123] at ac)
            (try simp only [hl498000_123] at Z)
            (try simp only [hl498000_123] at aa)
            (try simp only [hl498000_123] at M)
            (try simp only [hl498000_123] at eP)
            (try simp only [hl498000_123] at eQ)
            have hl498001_123 := (Kd.R_reads' M.out).1
            rw [hl498001_123] at M
            (try simp only [hl498001_123])
            (try simp only [hl498001_123] at z)
            (try simp only [hl498001_123] at s)
            (try simp only [hl498001_123] at D)
            (try simp only [hl498001_123] at G)
            (try simp only [hl498001_123] at I)
            (try simp only [hl498001_123] at aq)
            (try simp only [hl498001_123] at ab)
            (try simp only [hl498001_123] at ac)
            (try simp only [hl498001_123] at Z)
            (try simp only [hl498001_123] at aa)
            (try simp only [hl498001_123] at L)
            (try simp only [hl498001_123] at eP)
            (try simp only [hl498001_123] at eQ)
            cases kq with
            | zero => exact absurd HA.out (by simp [laws_FnExactGraphDo.j2])
            | succ gy =>
             have H := HA.out
             clear HA
             simp only [laws_FnExactGraphDo.j2] at H
             by_cases eR : eO = true
             ·subst eR
              replace H : (some false) = some r := by rw [if_pos rfl] at H; exact H
              exact absurd (Option.some.inj H) (by rw [hT.out]; decide)
             ·replace eR := Bool.eq_false_iff.mpr eR
              subst eR
              have H1 : ((laws_heldGraph.f gy bZ b0 1).bind fun cT => (if cT < 0 then (some false) else (if cT = bV then (some true) else (some false)))) = some r := by rw [if_neg (show ¬ (false = true) by decide)] at H; exact H
              clear H
              have H := H1
              clear H1
              replace H := Option.bind_eq_some_iff.mp H
              obtain ⟨cT, gz, H⟩ := H
              try dsimp -simprocs only at H
              have h4 := am gz
              clear gz
              by_cases eb : cT < 0
              ·rw [if_pos eb] at H
               have h5 : decide (cT < 0) = true := decide_eq_true eb
               clear eb
               exact absurd (Option.some.inj H) (by rw [hT.out]; decide)
              ·rw [if_neg eb] at H
               have h5 : decide (cT < 0) = false := decide_eq_false eb
               clear eb
               by_cases d5 : cT = bV
               ·rw [if_pos d5] at H
                have h6 : (cT == bV) = true := beq_iff_eq.mpr d5
                have h7 : (cT != bV) = false := bne_eq_false_iff_eq.mpr d5
                clear d5
                obtain rfl := Option.some.inj H
                have my := bX.out
                have mz := bW.out
                have mA := bY.out
                have mB := bm.out
                have mC := bP.out
                have mD := bO.out
                have mE := bU.out
                have mF := bL.out
                have mG := b8.out
                have mH := b9.out
                obtain ⟨mI, mJ⟩ := bc2 (w := wc) I.out
                have mK := blk_frozen I.out
                go_wp2_with (first | ((with_reducible refine gc 37 rfl ?_); refine gl 98 Try.func37 #[.agg #[.slice aV bZ.length aQ, .slice aW b0.length aR], .int .i64 1] ?_; (with_reducible refine (laws_heldGraph.calls gy _ _ bZ _ _ b0 1 cT _ ?av ?aw ?ax ?aL h4.out).mono ?_); (case av => exact cr L); (case aw => exact cc L); (case ax => exact cr M); (case aL => exact cc M); rintro e mL ⟨rfl, hb⟩; refine ⟨_, rfl, ?_⟩; replace ab := rb ab hb; replace ac := rb ac hb; replace Z := rb Z hb; replace aa := rb aa hb; replace L := rb L hb; replace M := rb M hb; replace eP := rb eP hb; replace eQ := rb eQ hb; replace z := bb z hb rfl; replace s := bb s hb rfl; replace D := bb D hb rfl; replace G := bb G hb rfl; replace I := bb I hb rfl; replace aq := bb aq hb rfl; replace HB := hs HB hb; (try clear hb)))
                go_ret
                exact ⟨eqr, bs HB.out⟩
               ·rw [if_neg d5] at H
                have h6 : (cT == bV) = false := beq_eq_false_iff_ne.mpr d5
                have h7 : (cT != bV) = true := bne_iff_ne.mpr d5
                exact absurd (Option.some.inj H) (by rw [hT.out]; decide)
          ·rw [if_neg d4] at H
           have hH : (cE == bV) = false := beq_eq_false_iff_ne.mpr d4
           have hI : (cE != bV) = true := bne_iff_ne.mpr d4
           exact absurd (Option.some.inj H) (by rw [hT.out]; decide)
     ·replace eC := Bool.eq_false_iff.mpr eC
      subst eC
      have H1 : (some false) = some r := by rw [if_neg (show ¬ (false = true) by decide)] at H; exact H
      clear H
      have H := H1
      clear H1
      exact absurd (Option.some.inj H) (by rw [hT.out]; decide)

end Go.Proofs.Ytohmemckdogljaa.QFnExactGraphDo
