/- Contracts of the Go functions that this law reaches: each does what its plain Lean function says. No condition. -/
import Derived.Test.YtohmemckdogljaaQFnGraphBentx0
import Derived.Test.YtohmemckdogljaaQFnGraphBentx6
import Derived.Test.YtohmemckdogljaaQFnGraphBentx7
import Derived.Test.YtohmemckdogljaaQFnGraphBentx9
import Derived.Test.YtohmemckdogljaaQFnGraphBentx10
import Derived.Test.YtohmemckdogljaaQFnGraphBentx11
import Derived.Test.YtohmemckdogljaaQFnGraphBentx12
import Derived.Test.YtohmemckdogljaaQFnGraphBentx13
import Derived.Test.YtohmemckdogljaaQFnGraphBentx14
namespace Go.Proofs.Ytohmemckdogljaa.QFnGraphBent
open Go.RowKit Go.Proofs.YtohmemckdogljaaW.PrintWords Go.Proofs.YtohmemckdogljaaW.PrintLast Go.Proofs.YtohmemckdogljaaW.PrintMore Go.Proofs.Ytohmemckdogljaa.Bl
attribute [local go_sem] max2_int min2_int max_two min_two max_three min_three max_four min_four   -- for this text's walks alone
set_option linter.unusedVariables false
set_option linter.unusedSimpArgs false
set_option maxHeartbeats 8000000
set_option maxRecDepth 100000

/-! ### spec_l2Do: function 96 -/
def spec_l2Do.f (k : Nat) (s : List (S36)) (y : List (S56)) (D : Int) (G : Int) (I : Int) (J : Int) (L : Int) (O : Int) (T : Int) (X : Int) : Option ((List (S36)) × (List (S56)) × Int) := (spec_OpLabel.f k D G I J L O T X).bind fun ae => (if ae < 0 then (some (s, y, 1)) else ((spec_l2Ends.f k s y D G I J L O T X).bind fun z => (if z = 0 then (if D = 1 then ((spec_l2Copy.f s y).bind fun Y => ((spec_l2PutNode.f k Y.1 Y.2 G I).bind fun Z => (some (Z.1, Z.2, z)))) else (if D = 2 then ((spec_l2Copy.f s y).bind fun aa => ((spec_l2PutEdge.f k aa.1 aa.2 J L O T X).bind fun ab => (some (ab.1, ab.2, z)))) else (if D = 3 then ((spec_l2Cut.f k s y J L O T X).bind fun ac => (some (ac.1, ac.2, z))) else ((spec_l2Off.f k s y G I).bind fun ad => (some (ad.1, ad.2, z)))))) else (some (s, y, z)))))
def spec_l2Do.T8 : Bool × List (List Nat × List Nat) := (true, [([], []), ([0], [0]), ([], []), ([2], [2]), ([1, 3, 1], [1, 3]), ([], []), ([4, 4, 0, 1, 2, 3, 4], [4]), ([5, 6, 0, 1, 2, 3, 4, 5, 6], [5])])
def spec_l2Do.B8 : List Nat := [0, 1, 0, 4, 15, 0, 31, 127]
theorem spec_l2Do.tab8 : rtab .any (opsOf Try.f96 8) = spec_l2Do.T8 := by kernel_rfl
theorem spec_l2Do.bits8 : waitsOk spec_l2Do.T8.2 spec_l2Do.B8 = true := by kernel_rfl
def spec_l2Do.T10 : Bool × List (List Nat × List Nat) := (true, [([], []), ([0], [0]), ([], []), ([2], [2]), ([1, 3, 1], [1, 3]), ([], []), ([4, 4, 0, 1, 2, 3, 4], [4]), ([5, 6, 0, 1, 2, 3, 4, 5, 6], [5])])
def spec_l2Do.B10 : List Nat := [0, 1, 0, 4, 15, 0, 31, 127]
theorem spec_l2Do.tab10 : rtab .any (opsOf Try.f96 10) = spec_l2Do.T10 := by kernel_rfl
theorem spec_l2Do.bits10 : waitsOk spec_l2Do.T10.2 spec_l2Do.B10 = true := by kernel_rfl
theorem spec_l2Do.calls (k : Nat) (L : Nat → Prop) (bm : Value) (af : List (S36)) (O : Nat → Prop) (bn : Value) (ag : List (S56)) (T : Int) (Y : Int) (Z : Int) (aa : Int) (ab : Int) (ac : Int) (ad : Int) (ae : Int) (r1 : List (S36)) (r2 : List (S56)) (r3 : Int) (w0 w : World) (hB : Below w0.heap.size w0 w) (cH : Kd.R k36 36 w w0.heap.size L bm af) (cI : Kd.R k56 56 w w0.heap.size O bn ag) (h : spec_l2Do.f k af ag T Y Z aa ab ac ad ae = some (r1, r2, r3)) :
  Calls Try.prog 96 #[.agg #[bm, bn], .agg #[.int .i64 T, .int .i64 Y, .int .i64 Z, .int .i64 aa, .int .i64 ab, .int .i64 ac, .int .i64 ad, .int .i64 ae]] w fun e w' => ∃ bJ bK : Value, e = .returned (.tuple #[.agg #[bJ, bK], .int .i64 r3]) ∧ Kd.R k36 36 w' w0.heap.size (fun k_ => ((L k_ ∨ O k_) ∨ w.heap.size ≤ k_)) bJ r1 ∧ Kd.R k56 56 w' w0.heap.size (fun k_ => ((L k_ ∨ O k_) ∨ w.heap.size ≤ k_)) bK r2 ∧ Below w0.heap.size w0 w' ∧ Kept w w' (fun k_ => L k_ ∨ O k_) := by
 have hu34 := Try.underlying34
 have hu58 := Try.underlying58
 have hu36 := Try.underlying36
 have hu56 := Try.underlying56
 have D := am (show Kd.R k36 36 w w0.heap.size (fun k_ => ((L k_ ∨ O k_) ∨ w.heap.size ≤ k_)) bm af from Kd.R_mono cH (fun k_ hk => (.inl (.inl hk))))
 have G := am (show Kd.R k56 56 w w0.heap.size (fun k_ => ((L k_ ∨ O k_) ∨ w.heap.size ≤ k_)) bn ag from Kd.R_mono cI (fun k_ hk => (.inl (.inr hk))))
 have HK := am (Kept.refl w (fun k_ => L k_ ∨ O k_))
 have dO := am hB.size
 have HB := am hB
 clear hB
 have H := h; unfold spec_l2Do.f at H
 clear h
 replace H := Option.bind_eq_some_iff.mp H
 obtain ⟨aH, bL, H⟩ := H
 try dsimp -simprocs only at H
 have A3 := am bL
 clear bL
 by_cases c4 : aH < 0
 ·rw [if_pos c4] at H
  have cJ : decide (aH < 0) = true := decide_eq_true c4
  clear c4
  simp only [Option.some.injEq, Prod.mk.injEq] at H
  obtain ⟨rfl, rfl, rfl⟩ := H
  obtain ⟨bM, bN, cK⟩ := Kd.R_slice D.out
  subst cK
  obtain ⟨bO, bP, cL⟩ := Kd.R_slice G.out
  subst cL
  go_enter Try.func96, Try.ntmps96
  go_wp2_with (first | ((with_reducible refine gd 2 rfl ?_); refine bx 2 (cs := #[.slice bM af.length bN, .slice bO ag.length bP]) (t := 34) ?_; intro au hg w7 hbox hb; replace D := rb D hb; replace G := rb G hb; have z := am hbox; have aM := Ge.mk ((by rw [hg]; exact (by first | exact HK.out.1 | exact (show Kept w _ (fun k_ => L k_ ∨ O k_) from ts HK.out).1) : w.heap.size ≤ au)); replace HK := kl HK hb; have aN := gwb HB hg; replace HB := hs HB hb; clear hb hbox hg) | ((with_reducible refine gd 3 rfl ?_); refine bx 3 (cs := #[.int .i64 T, .int .i64 Y, .int .i64 Z, .int .i64 aa, .int .i64 ab, .int .i64 ac, .int .i64 ad, .int .i64 ae]) (t := 58) ?_; intro ah hg w8 hbox hb; replace D := rb D hb; replace G := rb G hb; have y := am hbox; have aO := Ge.mk ((by rw [hg]; exact (by first | exact HK.out.1 | exact (show Kept w _ (fun k_ => L k_ ∨ O k_) from ts HK.out).1) : w.heap.size ≤ ah)); replace HK := kl HK hb; have aP := gwb HB hg; replace HB := hs HB hb; have aE := nq z hg; have aF := nq' z hg; replace z := bb z hb rfl; clear hb hbox hg) | ((with_reducible refine gd 4 rfl ?_); refine bx 4 (cs := #[.slice none 0 0, .slice none 0 0]) (t := 34) ?_; intro J hg w9 hbox hb; replace D := rb D hb; replace G := rb G hb; have I := am hbox; have aQ := Ge.mk ((by rw [hg]; exact (by first | exact HK.out.1 | exact (show Kept w _ (fun k_ => L k_ ∨ O k_) from ts HK.out).1) : w.heap.size ≤ J)); replace HK := kl HK hb; have aR := gwb HB hg; replace HB := hs HB hb; have ai := nq z hg; have av := nq' z hg; replace z := bb z hb rfl; have X := nq y hg; have aw := nq' y hg; replace y := bb y hb rfl; clear hb hbox hg; have dP := aF.out; have dQ := aE.out; have dR := X.out; have dS := aw.out; obtain ⟨dT, dU, dV, dW, dX, dY, dZ, d0⟩ := bc8 (w := w9) y.out; have d1 := blk_frozen y.out) | ((with_reducible refine gc 44 rfl ?_); refine gl 8 Try.func44 #[.agg #[.int .i64 T, .int .i64 Y, .int .i64 Z, .int .i64 aa, .int .i64 ab, .int .i64 ac, .int .i64 ad, .int .i64 ae]] ?_; (with_reducible refine (spec_OpLabel.calls k T Y Z aa ab ac ad ae aH _ A3.out).mono ?_); rintro e bQ ⟨rfl, hb⟩; refine ⟨_, rfl, ?_⟩; replace D := rb D hb; replace G := rb G hb; replace z := bb z hb rfl; replace y := bb y hb rfl; replace I := bb I hb rfl; replace HK := kl HK hb; replace HB := hs HB hb; (try clear hb); have d2 := ai.out; have d3 := av.out; obtain ⟨d4, d5⟩ := bc2 (w := bQ) z.out; have d6 := blk_frozen z.out; obtain ⟨d7, d8⟩ := bc2 (w := bQ) I.out; have d9 := blk_frozen I.out))
  refine bodyPost_ret (results_ct rfl _ _ J 34 #[.slice bM af.length bN, .slice bO ag.length bP] (0, 0) _ rfl (bp I.out rfl) Try.underlying34 rfl (by kernel_rfl)) rfl ?_
  exact ⟨_, _, eqr, Kd.R_mono (rt D.out I.out (by decide)) (fun _ hk => hk), Kd.R_mono (rt G.out I.out (by decide)) (fun _ hk => hk), bs HB.out, ts HK.out⟩
 ·rw [if_neg c4] at H
  have cJ : decide (aH < 0) = false := decide_eq_false c4
  clear c4
  replace H := Option.bind_eq_some_iff.mp H
  obtain ⟨aG, bR, H⟩ := H
  try dsimp -simprocs only at H
  have aS := am bR
  clear bR
  by_cases aI : aG = 0
  ·rw [if_pos aI] at H
   have cM : (aG == 0) = true := beq_iff_eq.mpr aI
   have cN : (aG != 0) = false := bne_eq_false_iff_eq.mpr aI
   clear aI
   by_cases aJ : T = 1
   ·rw [if_pos aJ] at H
    have cO : (T == 1) = true := beq_iff_eq.mpr aJ
    have cP : (T != 1) = false := bne_eq_false_iff_eq.mpr aJ
    clear aJ
    replace H := Option.bind_eq_some_iff.mp H
    obtain ⟨⟨aT, aU⟩, bS, H⟩ := H
    try dsimp -simprocs only at H
    have cQ := am bS
    clear bS
    replace H := Option.bind_eq_some_iff.mp H
    obtain ⟨⟨bT, bU⟩, bV, H⟩ := H
    try dsimp -simprocs only at H
    have cR := am bV
    clear bV
    simp only [Option.some.injEq, Prod.mk.injEq] at H
    obtain ⟨rfl, rfl, rfl⟩ := H
    obtain ⟨aV, aW, cS⟩ := Kd.R_slice D.out
    subst cS
    obtain ⟨aX, aY, cT⟩ := Kd.R_slice G.out
    subst cT
    go_enter Try.func96, Try.ntmps96
    try go_wp2_with (first | ((with_reducible refine gd 2 rfl ?_); refine bx 2 (cs := #[.slice aV af.length aW, .slice aX ag.length aY]) (t := 34) ?_; intro au hg ea hbox hb; replace D := rb D hb; replace G := rb G hb; have z := am hbox; have aM := Ge.mk ((by rw [hg]; exact (by first | exact HK.out.1 | exact (show Kept w _ (fun k_ => L k_ ∨ O k_) from ts HK.out).1) : w.heap.size ≤ au)); replace HK := kl HK hb; have aN := gwb HB hg; replace HB := hs HB hb; clear hb hbox hg) | ((with_reducible refine gd 3 rfl ?_); refine bx 3 (cs := #[.int .i64 T, .int .i64 Y, .int .i64 Z, .int .i64 aa, .int .i64 ab, .int .i64 ac, .int .i64 ad, .int .i64 ae]) (t := 58) ?_; intro ah hg eb hbox hb; replace D := rb D hb; replace G := rb G hb; have y := am hbox; have aO := Ge.mk ((by rw [hg]; exact (by first | exact HK.out.1 | exact (show Kept w _ (fun k_ => L k_ ∨ O k_) from ts HK.out).1) : w.heap.size ≤ ah)); replace HK := kl HK hb; have aP := gwb HB hg; replace HB := hs HB hb; have aE := nq z hg; have aF := nq' z hg; replace z := bb z hb rfl; clear hb hbox hg) | ((with_reducible refine gd 4 rfl ?_); refine bx 4 (cs := #[.slice none 0 0, .slice none 0 0]) (t := 34) ?_; intro J hg cU hbox hb; replace D := rb D hb; replace G := rb G hb; have I := am hbox; have aQ := Ge.mk ((by rw [hg]; exact (by first | exact HK.out.1 | exact (show Kept w _ (fun k_ => L k_ ∨ O k_) from ts HK.out).1) : w.heap.size ≤ J)); replace HK := kl HK hb; have aR := gwb HB hg; replace HB := hs HB hb; have ai := nq z hg; have av := nq' z hg; replace z := bb z hb rfl; have X := nq y hg; have aw := nq' y hg; replace y := bb y hb rfl; clear hb hbox hg; have ec := aF.out; have ed := aE.out; have ee := X.out; have ef := aw.out; obtain ⟨eg, eh, ei, ej, ek, el, em, en⟩ := bc8 (w := cU) y.out; have eo := blk_frozen y.out) | ((with_reducible refine gc 44 rfl ?_); refine gl 8 Try.func44 #[.agg #[.int .i64 T, .int .i64 Y, .int .i64 Z, .int .i64 aa, .int .i64 ab, .int .i64 ac, .int .i64 ad, .int .i64 ae]] ?_; (with_reducible refine (spec_OpLabel.calls k T Y Z aa ab ac ad ae aH _ A3.out).mono ?_); rintro e bW ⟨rfl, hb⟩; refine ⟨_, rfl, ?_⟩; replace D := rb D hb; replace G := rb G hb; replace z := bb z hb rfl; replace y := bb y hb rfl; replace I := bb I hb rfl; replace HK := kl HK hb; replace HB := hs HB hb; (try clear hb); have ep := ai.out; have eq := av.out; obtain ⟨er, es⟩ := bc2 (w := bW) z.out; have et := blk_frozen z.out; obtain ⟨eu, ev, ew, ex, ey, ez, eA, eB⟩ := bc8 (w := bW) y.out; have eC := blk_frozen y.out) | ((with_reducible refine gc 123 rfl ?_); refine gl 13 Try.func123 #[.agg #[.slice aV af.length aW, .slice aX ag.length aY], .agg #[.int .i64 T, .int .i64 Y, .int .i64 Z, .int .i64 aa, .int .i64 ab, .int .i64 ac, .int .i64 ad, .int .i64 ae]] ?_; (with_reducible refine (spec_l2Ends.calls k _ _ af _ _ ag T Y Z aa ab ac ad ae aG _ ?ao ?ap ?aq ?ar aS.out).mono ?_); (case ao => exact cr D); (case ap => exact cc D); (case aq => exact cr G); (case ar => exact cc G); rintro e bX ⟨rfl, hb⟩; refine ⟨_, rfl, ?_⟩; replace D := rb D hb; replace G := rb G hb; replace z := bb z hb rfl; replace y := bb y hb rfl; replace I := bb I hb rfl; replace HK := kl HK hb; replace HB := hs HB hb; (try clear hb); obtain ⟨eD, eE, eF, eG, eH, eI, eJ, eK⟩ := bc8 (w := bX) y.out; have eL := blk_frozen y.out))
    replace D := rd_ D
    replace G := rd_ G
    replace z := bd z
    replace y := bd y
    replace I := bd I
    replace HK := am (Kept.drew HK.out)
    replace HB := hd HB
    refine sta 8 (fun w' => w'.cell? ⟨au, 0, none⟩ = some (.slice aV af.length aW) ∧ w'.cell? ⟨au, 1, none⟩ = some (.slice aX ag.length aY) ∧ w'.cell? ⟨ah, 0, none⟩ = some (.int .i64 T) ∧ w'.cell? ⟨ah, 1, none⟩ = some (.int .i64 Y) ∧ w'.cell? ⟨ah, 2, none⟩ = some (.int .i64 Z) ∧ w'.cell? ⟨ah, 3, none⟩ = some (.int .i64 aa) ∧ w'.cell? ⟨ah, 4, none⟩ = some (.int .i64 ab) ∧ w'.cell? ⟨ah, 5, none⟩ = some (.int .i64 ac) ∧ w'.cell? ⟨ah, 6, none⟩ = some (.int .i64 ad) ∧ w'.cell? ⟨ah, 7, none⟩ = some (.int .i64 ae)) [] ⟨cx z 0, cx z 1, cx y 0, cx y 1, cx y 2, cx y 3, cx y 4, cx y 5, cx y 6, cx y 7⟩ (fun hHeld => ?_); refine with_tabW spec_l2Do.tab8 spec_l2Do.bits8 (fun HT_ HW_ => ?_)
    generalize bX.drew = eM at D G z y I HK HB hHeld ⊢
    refine pu 2 24 ?_
    refine pu 5 27 ?_
    refine tk 0 22 ?_
    refine tk 3 25 ?_
    refine on 1 23 (fun K hK => ?_)
    refine gs Try.func97 #[.agg #[.slice aV af.length aW, .slice aX ag.length aY]] ?_
    with_reducible refine (spec_l2Copy.calls _ _ af _ _ ag aT aU _ ?ao ?ap ?aq ?ar cQ.out).mono ?_
    (case ao => exact cr D)
    (case ap => exact cc D)
    (case aq => exact cr G)
    (case ar => exact cc G)
    rintro e eN ⟨eO, eP, rfl, an, aj, hb⟩
    refine ⟨_, rfl, ?_⟩
    have aA := am (Kd.R_lower (Kd.R_new' (Kd.R_newM (M := fun k_ => ((L k_ ∨ O k_) ∨ w.heap.size ≤ k_)) an (by first | exact HK.out.1 | exact (show Kept w _ (fun k_ => L k_ ∨ O k_) from ts HK.out).1) (fun k_ h_ => .inr h_)) (rk D)) (below_size (bs HB.out)))
    replace D := re D an hb
    have aB := am (Kd.R_lower (Kd.R_new' (Kd.R_newM (M := fun k_ => ((L k_ ∨ O k_) ∨ w.heap.size ≤ k_)) aj (by first | exact HK.out.1 | exact (show Kept w _ (fun k_ => L k_ ∨ O k_) from ts HK.out).1) (fun k_ h_ => .inr h_)) (rk G)) (below_size (bs HB.out)))
    replace G := re G aj hb
    replace z := bb z hb rfl
    replace y := bb y hb rfl
    replace I := bb I hb rfl
    replace HK := kl HK hb
    replace HB := hs HB hb
    (try clear hb)
    (try clear hb2)
    (try clear hk)
    (try clear hi)
    (try clear an)
    (try clear aj)
    obtain ⟨bo, br, bY⟩ := Kd.R_slice aA.out
    (first | subst bY | (injection bY with ak ax al; have ay := ak.symm; have az := al.symm; clear ak ax al; subst ay; subst az))
    obtain ⟨bt, bu, bZ⟩ := Kd.R_slice aB.out
    (first | subst bZ | (injection bZ with ak ax al; have ay := ak.symm; have az := al.symm; clear ak ax al; subst ay; subst az))
    refine hK.out _ _ ⟨cx z 0, cx z 1, cx y 0, cx y 1, cx y 2, cx y 3, cx y 4, cx y 5, cx y 6, cx y 7⟩ (fun hHeld => ?_)
    clear hK K
    refine nrm 23 ?_
    refine on 4 26 (fun K hK => ?_)
    refine gs Try.func109 #[.agg #[.slice bo aT.length br, .slice bt aU.length bu], .agg #[.int .i64 Y, .int .i64 Z]] ?_
    with_reducible refine (spec_l2PutNode.calls k (fun k_ => some k_ = (.slice bo aT.length br : Value).ownBlock) (.slice bo aT.length br) aT (fun k_ => some k_ = (.slice bt aU.length bu : Value).ownBlock) (.slice bt aU.length bu) aU Y Z bT bU w0 _ ?ao ?ap ?aq cR.out).mono ?_
    (case ao => exact bs HB.out)
    (case ap => exact Kd.R_tight rfl aA.out)
    (case aq => exact Kd.R_tight rfl aB.out)
    rintro e b0 ⟨cV, cW, rfl, an, aj, hb, hkp⟩
    refine ⟨_, rfl, ?_⟩
    replace z := am (blk_kept (bf z.out) hkp (fun hs_ => Or.elim hs_ (fun e_ => (fun e_ => (Kd.R_ne aA.out z.out (by decide)) e_) e_) (fun e_ => (fun e_ => (Kd.R_ne aB.out z.out (by decide)) e_) e_)))
    replace y := am (blk_kept (bf y.out) hkp (fun hs_ => Or.elim hs_ (fun e_ => (fun e_ => (Kd.R_ne aA.out y.out (by decide)) e_) e_) (fun e_ => (fun e_ => (Kd.R_ne aB.out y.out (by decide)) e_) e_)))
    replace I := am (blk_kept (bf I.out) hkp (fun hs_ => Or.elim hs_ (fun e_ => (fun e_ => (Kd.R_ne aA.out I.out (by decide)) e_) e_) (fun e_ => (fun e_ => (Kd.R_ne aB.out I.out (by decide)) e_) e_)))
    have b1 := am (Kd.R_mono (ok' := fun k_ => ((L k_ ∨ O k_) ∨ w.heap.size ≤ k_) ∧ some k_ ≠ (.slice aV af.length aW : Value).ownBlock) an (fun k_ hk_ => ⟨Or.elim hk_ (fun hs_ => Or.elim hs_ (fun hs_ => (aA.out.1 k_ (hs_).symm).1.1) (fun hs_ => (aB.out.1 k_ (hs_).symm).1.1)) (fun hn_ => (.inr (Nat.le_trans (by first | exact HK.out.1 | exact (show Kept w _ (fun k_ => L k_ ∨ O k_) from ts HK.out).1) hn_))), Or.elim hk_ (fun hs_ => Or.elim hs_ (fun hs_ => fun e_ => ((((Kd.R_apart' D.out (Kd.R_typed aB.out) (by decide))).1 k_ e_.symm).1.2) hs_) (fun hs_ => fun e_ => ((((Kd.R_apart' D.out (Kd.R_typed aB.out) (by decide))).1 k_ e_.symm).2) hs_)) (fun hn_ => (Kd.fresh' (rk D) k_ hn_))⟩))
    replace D := am (Kd.R_mono (ok' := fun k_ => ((L k_ ∨ O k_) ∨ w.heap.size ≤ k_) ∧ some k_ ≠ (cV : Value).ownBlock) (Kd.R_keptB ((Kd.R_apart' D.out (Kd.R_typed aB.out) (by decide))) hkp (fun k_ hk_ hs_ => Or.elim hs_ (fun e_ => (hk_.1.2) e_) (fun e_ => (hk_.2) e_))) (fun k_ hk_ => ⟨hk_.1.1.1, fun e_ => Or.elim (an.1 k_ e_.symm) (fun hs_ => hk_.2.1 hs_) (fun hn_ => Nat.not_le.2 hk_.2.2 hn_)⟩))
    have b2 := am (Kd.R_mono (ok' := fun k_ => ((L k_ ∨ O k_) ∨ w.heap.size ≤ k_) ∧ some k_ ≠ (.slice aX ag.length aY : Value).ownBlock) aj (fun k_ hk_ => ⟨Or.elim hk_ (fun hs_ => Or.elim hs_ (fun hs_ => (aA.out.1 k_ (hs_).symm).1.1) (fun hs_ => (aB.out.1 k_ (hs_).symm).1.1)) (fun hn_ => (.inr (Nat.le_trans (by first | exact HK.out.1 | exact (show Kept w _ (fun k_ => L k_ ∨ O k_) from ts HK.out).1) hn_))), Or.elim hk_ (fun hs_ => Or.elim hs_ (fun hs_ => fun e_ => ((((Kd.R_apart' G.out (Kd.R_typed aA.out) (by decide))).1 k_ e_.symm).2) hs_) (fun hs_ => fun e_ => ((((Kd.R_apart' G.out (Kd.R_typed aA.out) (by decide))).1 k_ e_.symm).1.2) hs_)) (fun hn_ => (Kd.fresh' (rk G) k_ hn_))⟩))
    replace G := am (Kd.R_mono (ok' := fun k_ => ((L k_ ∨ O k_) ∨ w.heap.size ≤ k_) ∧ some k_ ≠ (cW : Value).ownBlock) (Kd.R_keptB ((Kd.R_apart' G.out (Kd.R_typed aA.out) (by decide))) hkp (fun k_ hk_ hs_ => Or.elim hs_ (fun e_ => (hk_.2) e_) (fun e_ => (hk_.1.2) e_))) (fun k_ hk_ => ⟨hk_.1.1.1, fun e_ => Or.elim (aj.1 k_ e_.symm) (fun hs_ => hk_.2.1 hs_) (fun hn_ => Nat.not_le.2 hk_.2.2 hn_)⟩))
    replace HK := am (Kept.then_ (S := (fun k_ => L k_ ∨ O k_)) (ts HK.out) hkp (fun k_ hs_ => Or.elim hs_ (fun e_ => (fun e_ => (aA.out.1 k_ e_.symm).1.1) e_) (fun e_ => (fun e_ => (aB.out.1 k_ e_.symm).1.1) e_)))
    replace HB := am hb
    clear aA aB
    (try clear hb)
    (try clear hkp)
    (try clear an)
    (try clear aj)
    obtain ⟨cX, cY, b3⟩ := Kd.R_slice b1.out
    (first | subst b3 | (injection b3 with ak ax al; have ay := ak.symm; have az := al.symm; clear ak ax al; subst ay; subst az))
    obtain ⟨cZ, c0, b4⟩ := Kd.R_slice b2.out
    (first | subst b4 | (injection b4 with ak ax al; have ay := ak.symm; have az := al.symm; clear ak ax al; subst ay; subst az))
    refine hK.out _ _ ⟨cx z 0, cx z 1, cx y 0, cx y 1, cx y 2, cx y 3, cx y 4, cx y 5, cx y 6, cx y 7⟩ (fun hHeld => ?_)
    clear hK K
    refine nrm 26 ?_
    refine on0 6 (fun K hK => ?_)
    have eQ : b0.cell? ⟨J, 0, none⟩ = some (.slice none 0 0) := cx I 0
    have eR := blk_frozen I.out 0
    have eS := ai.out
    have eT := X.out
    have eU := av.out
    have eV := aw.out
    have eW : b0.cell? ⟨J, 1, none⟩ = some (.slice none 0 0) := cx I 1
    have eX := blk_frozen I.out 1
    have eY := ai.out
    have eZ := X.out
    have e0 := av.out
    have e1 := aw.out
    refine sk ?_
    refine hK.out _ _ ⟨((cell_far (p := ⟨J, _, none⟩) ai.out _).trans (((cell_far (p := ⟨J, _, none⟩) ai.out _).trans (hHeld.1)))), ((cell_far (p := ⟨J, _, none⟩) ai.out _).trans (((cell_far (p := ⟨J, _, none⟩) ai.out _).trans (hHeld.2.1)))), ((cell_far (p := ⟨J, _, none⟩) X.out _).trans (((cell_far (p := ⟨J, _, none⟩) X.out _).trans (hHeld.2.2.1)))), ((cell_far (p := ⟨J, _, none⟩) X.out _).trans (((cell_far (p := ⟨J, _, none⟩) X.out _).trans (hHeld.2.2.2.1)))), ((cell_far (p := ⟨J, _, none⟩) X.out _).trans (((cell_far (p := ⟨J, _, none⟩) X.out _).trans (hHeld.2.2.2.2.1)))), ((cell_far (p := ⟨J, _, none⟩) X.out _).trans (((cell_far (p := ⟨J, _, none⟩) X.out _).trans (hHeld.2.2.2.2.2.1)))), ((cell_far (p := ⟨J, _, none⟩) X.out _).trans (((cell_far (p := ⟨J, _, none⟩) X.out _).trans (hHeld.2.2.2.2.2.2.1)))), ((cell_far (p := ⟨J, _, none⟩) X.out _).trans (((cell_far (p := ⟨J, _, none⟩) X.out _).trans (hHeld.2.2.2.2.2.2.2.1)))), ((cell_far (p := ⟨J, _, none⟩) X.out _).trans (((cell_far (p := ⟨J, _, none⟩) X.out _).trans (hHeld.2.2.2.2.2.2.2.2.1)))), ((cell_far (p := ⟨J, _, none⟩) X.out _).trans (((cell_far (p := ⟨J, _, none⟩) X.out _).trans (hHeld.2.2.2.2.2.2.2.2.2))))⟩ (fun hHeld => ?_)
    clear hK K
    refine pu 7 5 ?_
    refine dn ?_
    try go_wp2
    refine bodyPost_ret (results_ct rfl _ _ J 34 #[.slice cX bT.length cY, .slice cZ bU.length c0] (0, 0) _ rfl (bp I.out rfl) Try.underlying34 rfl (by kernel_rfl)) rfl ?_
    exact ⟨_, _, eqr, Kd.R_mono (rt b1.out I.out (by decide)) (fun _ hk => hk.1), Kd.R_mono (rt b2.out I.out (by decide)) (fun _ hk => hk.1), bs HB.out, ts HK.out⟩
   ·rw [if_neg aJ] at H
    have cO : (T == 1) = false := beq_eq_false_iff_ne.mpr aJ
    have cP : (T != 1) = true := bne_iff_ne.mpr aJ
    by_cases aK : T = 2
    ·rw [if_pos aK] at H
     have c2 : (T == 2) = true := beq_iff_eq.mpr aK
     have c3 : (T != 2) = false := bne_eq_false_iff_eq.mpr aK
     clear aK
     replace H := Option.bind_eq_some_iff.mp H
     obtain ⟨⟨aZ, ba⟩, b5, H⟩ := H
     try dsimp -simprocs only at H
     have c7 := am b5
     clear b5
     replace H := Option.bind_eq_some_iff.mp H
     obtain ⟨⟨b6, b7⟩, b8, H⟩ := H
     try dsimp -simprocs only at H
     have c9 := am b8
     clear b8
     simp only [Option.some.injEq, Prod.mk.injEq] at H
     obtain ⟨rfl, rfl, rfl⟩ := H
     obtain ⟨bc, be, da⟩ := Kd.R_slice D.out
     subst da
     obtain ⟨bg, bh, db⟩ := Kd.R_slice G.out
     subst db
     go_enter Try.func96, Try.ntmps96
     try go_wp2_with (first | ((with_reducible refine gd 2 rfl ?_); refine bx 2 (cs := #[.slice bc af.length be, .slice bg ag.length bh]) (t := 34) ?_; intro au hg e2 hbox hb; replace D := rb D hb; replace G := rb G hb; have z := am hbox; have aM := Ge.mk ((by rw [hg]; exact (by first | exact HK.out.1 | exact (show Kept w _ (fun k_ => L k_ ∨ O k_) from ts HK.out).1) : w.heap.size ≤ au)); replace HK := kl HK hb; have aN := gwb HB hg; replace HB := hs HB hb; clear hb hbox hg) | ((with_reducible refine gd 3 rfl ?_); refine bx 3 (cs := #[.int .i64 T, .int .i64 Y, .int .i64 Z, .int .i64 aa, .int .i64 ab, .int .i64 ac, .int .i64 ad, .int .i64 ae]) (t := 58) ?_; intro ah hg e3 hbox hb; replace D := rb D hb; replace G := rb G hb; have y := am hbox; have aO := Ge.mk ((by rw [hg]; exact (by first | exact HK.out.1 | exact (show Kept w _ (fun k_ => L k_ ∨ O k_) from ts HK.out).1) : w.heap.size ≤ ah)); replace HK := kl HK hb; have aP := gwb HB hg; replace HB := hs HB hb; have aE := nq z hg; have aF := nq' z hg; replace z := bb z hb rfl; clear hb hbox hg) | ((with_reducible refine gd 4 rfl ?_); refine bx 4 (cs := #[.slice none 0 0, .slice none 0 0]) (t := 34) ?_; intro J hg dc hbox hb; replace D := rb D hb; replace G := rb G hb; have I := am hbox; have aQ := Ge.mk ((by rw [hg]; exact (by first | exact HK.out.1 | exact (show Kept w _ (fun k_ => L k_ ∨ O k_) from ts HK.out).1) : w.heap.size ≤ J)); replace HK := kl HK hb; have aR := gwb HB hg; replace HB := hs HB hb; have ai := nq z hg; have av := nq' z hg; replace z := bb z hb rfl; have X := nq y hg; have aw := nq' y hg; replace y := bb y hb rfl; clear hb hbox hg; have e4 := aF.out; have e5 := aE.out; have e6 := X.out; have e7 := aw.out; obtain ⟨e8, e9, fa, fb, fc, fd, fe, ff⟩ := bc8 (w := dc) y.out; have fg := blk_frozen y.out) | ((with_reducible refine gc 44 rfl ?_); refine gl 8 Try.func44 #[.agg #[.int .i64 T, .int .i64 Y, .int .i64 Z, .int .i64 aa, .int .i64 ab, .int .i64 ac, .int .i64 ad, .int .i64 ae]] ?_; (with_reducible refine (spec_OpLabel.calls k T Y Z aa ab ac ad ae aH _ A3.out).mono ?_); rintro e b9 ⟨rfl, hb⟩; refine ⟨_, rfl, ?_⟩; replace D := rb D hb; replace G := rb G hb; replace z := bb z hb rfl; replace y := bb y hb rfl; replace I := bb I hb rfl; replace HK := kl HK hb; replace HB := hs HB hb; (try clear hb); have fh := ai.out; have fi := av.out; obtain ⟨fj, fk⟩ := bc2 (w := b9) z.out; have fl := blk_frozen z.out; obtain ⟨fm, fo, fp, fq, fr, fs, ft, fu⟩ := bc8 (w := b9) y.out; have fv := blk_frozen y.out) | ((with_reducible refine gc 123 rfl ?_); refine gl 13 Try.func123 #[.agg #[.slice bc af.length be, .slice bg ag.length bh], .agg #[.int .i64 T, .int .i64 Y, .int .i64 Z, .int .i64 aa, .int .i64 ab, .int .i64 ac, .int .i64 ad, .int .i64 ae]] ?_; (with_reducible refine (spec_l2Ends.calls k _ _ af _ _ ag T Y Z aa ab ac ad ae aG _ ?ao ?ap ?aq ?ar aS.out).mono ?_); (case ao => exact cr D); (case ap => exact cc D); (case aq => exact cr G); (case ar => exact cc G); rintro e ce ⟨rfl, hb⟩; refine ⟨_, rfl, ?_⟩; replace D := rb D hb; replace G := rb G hb; replace z := bb z hb rfl; replace y := bb y hb rfl; replace I := bb I hb rfl; replace HK := kl HK hb; replace HB := hs HB hb; (try clear hb); obtain ⟨fw, fx, fy, fz, fA, fB, fC, fD⟩ := bc8 (w := ce) y.out; have fE := blk_frozen y.out))
     replace D := rd_ D
     replace G := rd_ G
     replace z := bd z
     replace y := bd y
     replace I := bd I
     replace HK := am (Kept.drew HK.out)
     replace HB := hd HB
     refine sta 8 (fun w' => w'.cell? ⟨au, 0, none⟩ = some (.slice bc af.length be) ∧ w'.cell? ⟨au, 1, none⟩ = some (.slice bg ag.length bh) ∧ w'.cell? ⟨ah, 0, none⟩ = some (.int .i64 T) ∧ w'.cell? ⟨ah, 1, none⟩ = some (.int .i64 Y) ∧ w'.cell? ⟨ah, 2, none⟩ = some (.int .i64 Z) ∧ w'.cell? ⟨ah, 3, none⟩ = some (.int .i64 aa) ∧ w'.cell? ⟨ah, 4, none⟩ = some (.int .i64 ab) ∧ w'.cell? ⟨ah, 5, none⟩ = some (.int .i64 ac) ∧ w'.cell? ⟨ah, 6, none⟩ = some (.int .i64 ad) ∧ w'.cell? ⟨ah, 7, none⟩ = some (.int .i64 ae)) [] ⟨cx z 0, cx z 1, cx y 0, cx y 1, cx y 2, cx y 3, cx y 4, cx y 5, cx y 6, cx y 7⟩ (fun hHeld => ?_); refine with_tabW spec_l2Do.tab10 spec_l2Do.bits10 (fun HT_ HW_ => ?_)
     generalize ce.drew = fF at D G z y I HK HB hHeld ⊢
     refine pu 2 32 ?_
     refine pu 5 35 ?_
     refine tk 0 30 ?_
     refine tk 3 33 ?_
     refine on 1 31 (fun K hK => ?_)
     refine gs Try.func97 #[.agg #[.slice bc af.length be, .slice bg ag.length bh]] ?_
     with_reducible refine (spec_l2Copy.calls _ _ af _ _ ag aZ ba _ ?ao ?ap ?aq ?ar c7.out).mono ?_
     (case ao => exact cr D)
     (case ap => exact cc D)
     (case aq => exact cr G)
     (case ar => exact cc G)
     rintro e fG ⟨fH, fI, rfl, an, aj, hb⟩
     refine ⟨_, rfl, ?_⟩
     have aC := am (Kd.R_lower (Kd.R_new' (Kd.R_newM (M := fun k_ => ((L k_ ∨ O k_) ∨ w.heap.size ≤ k_)) an (by first | exact HK.out.1 | exact (show Kept w _ (fun k_ => L k_ ∨ O k_) from ts HK.out).1) (fun k_ h_ => .inr h_)) (rk D)) (below_size (bs HB.out)))
     replace D := re D an hb
     have aD := am (Kd.R_lower (Kd.R_new' (Kd.R_newM (M := fun k_ => ((L k_ ∨ O k_) ∨ w.heap.size ≤ k_)) aj (by first | exact HK.out.1 | exact (show Kept w _ (fun k_ => L k_ ∨ O k_) from ts HK.out).1) (fun k_ h_ => .inr h_)) (rk G)) (below_size (bs HB.out)))
     replace G := re G aj hb
     replace z := bb z hb rfl
     replace y := bb y hb rfl
     replace I := bb I hb rfl
     replace HK := kl HK hb
     replace HB := hs HB hb
     (try clear hb)
     (try clear hb2)
     (try clear hk)
     (try clear hi)
     (try clear an)
     (try clear aj)
     obtain ⟨bv, bw, cf⟩ := Kd.R_slice aC.out
     (first | subst cf | (injection cf with ak ax al; have ay := ak.symm; have az := al.symm; clear ak ax al; subst ay; subst az))
     obtain ⟨bz, bA, cg⟩ := Kd.R_slice aD.out
     (first | subst cg | (injection cg with ak ax al; have ay := ak.symm; have az := al.symm; clear ak ax al; subst ay; subst az))
     refine hK.out _ _ ⟨cx z 0, cx z 1, cx y 0, cx y 1, cx y 2, cx y 3, cx y 4, cx y 5, cx y 6, cx y 7⟩ (fun hHeld => ?_)
     clear hK K
     refine nrm 31 ?_
     refine on 4 34 (fun K hK => ?_)
     refine gs Try.func124 #[.agg #[.slice bv aZ.length bw, .slice bz ba.length bA], .agg #[.int .i64 aa, .int .i64 ab, .int .i64 ac, .int .i64 ad, .int .i64 ae]] ?_
     with_reducible refine (spec_l2PutEdge.calls k (fun k_ => some k_ = (.slice bv aZ.length bw : Value).ownBlock) (.slice bv aZ.length bw) aZ (fun k_ => some k_ = (.slice bz ba.length bA : Value).ownBlock) (.slice bz ba.length bA) ba aa ab ac ad ae b6 b7 w0 _ ?ao ?ap ?aq c9.out).mono ?_
     (case ao => exact bs HB.out)
     (case ap => exact Kd.R_tight rfl aC.out)
     (case aq => exact Kd.R_tight rfl aD.out)
     rintro e ch ⟨dd, de, rfl, an, aj, hb, hkp⟩
     refine ⟨_, rfl, ?_⟩
     replace z := am (blk_kept (bf z.out) hkp (fun hs_ => Or.elim hs_ (fun e_ => (fun e_ => (Kd.R_ne aC.out z.out (by decide)) e_) e_) (fun e_ => (fun e_ => (Kd.R_ne aD.out z.out (by decide)) e_) e_)))
     replace y := am (blk_kept (bf y.out) hkp (fun hs_ => Or.elim hs_ (fun e_ => (fun e_ => (Kd.R_ne aC.out y.out (by decide)) e_) e_) (fun e_ => (fun e_ => (Kd.R_ne aD.out y.out (by decide)) e_) e_)))
     replace I := am (blk_kept (bf I.out) hkp (fun hs_ => Or.elim hs_ (fun e_ => (fun e_ => (Kd.R_ne aC.out I.out (by decide)) e_) e_) (fun e_ => (fun e_ => (Kd.R_ne aD.out I.out (by decide)) e_) e_)))
     have ci := am (Kd.R_mono (ok' := fun k_ => ((L k_ ∨ O k_) ∨ w.heap.size ≤ k_) ∧ some k_ ≠ (.slice bc af.length be : Value).ownBlock) an (fun k_ hk_ => ⟨Or.elim hk_ (fun hs_ => Or.elim hs_ (fun hs_ => (aC.out.1 k_ (hs_).symm).1.1) (fun hs_ => (aD.out.1 k_ (hs_).symm).1.1)) (fun hn_ => (.inr (Nat.le_trans (by first | exact HK.out.1 | exact (show Kept w _ (fun k_ => L k_ ∨ O k_) from ts HK.out).1) hn_))), Or.elim hk_ (fun hs_ => Or.elim hs_ (fun hs_ => fun e_ => ((((Kd.R_apart' D.out (Kd.R_typed aD.out) (by decide))).1 k_ e_.symm).1.2) hs_) (fun hs_ => fun e_ => ((((Kd.R_apart' D.out (Kd.R_typed aD.out) (by decide))).1 k_ e_.symm).2) hs_)) (fun hn_ => (Kd.fresh' (rk D) k_ hn_))⟩))
     replace D := am (Kd.R_mono (ok' := fun k_ => ((L k_ ∨ O k_) ∨ w.heap.size ≤ k_) ∧ some k_ ≠ (dd : Value).ownBlock) (Kd.R_keptB ((Kd.R_apart' D.out (Kd.R_typed aD.out) (by decide))) hkp (fun k_ hk_ hs_ => Or.elim hs_ (fun e_ => (hk_.1.2) e_) (fun e_ => (hk_.2) e_))) (fun k_ hk_ => ⟨hk_.1.1.1, fun e_ => Or.elim (an.1 k_ e_.symm) (fun hs_ => hk_.2.1 hs_) (fun hn_ => Nat.not_le.2 hk_.2.2 hn_)⟩))
     have cj := am (Kd.R_mono (ok' := fun k_ => ((L k_ ∨ O k_) ∨ w.heap.size ≤ k_) ∧ some k_ ≠ (.slice bg ag.length bh : Value).ownBlock) aj (fun k_ hk_ => ⟨Or.elim hk_ (fun hs_ => Or.elim hs_ (fun hs_ => (aC.out.1 k_ (hs_).symm).1.1) (fun hs_ => (aD.out.1 k_ (hs_).symm).1.1)) (fun hn_ => (.inr (Nat.le_trans (by first | exact HK.out.1 | exact (show Kept w _ (fun k_ => L k_ ∨ O k_) from ts HK.out).1) hn_))), Or.elim hk_ (fun hs_ => Or.elim hs_ (fun hs_ => fun e_ => ((((Kd.R_apart' G.out (Kd.R_typed aC.out) (by decide))).1 k_ e_.symm).2) hs_) (fun hs_ => fun e_ => ((((Kd.R_apart' G.out (Kd.R_typed aC.out) (by decide))).1 k_ e_.symm).1.2) hs_)) (fun hn_ => (Kd.fresh' (rk G) k_ hn_))⟩))
     replace G := am (Kd.R_mono (ok' := fun k_ => ((L k_ ∨ O k_) ∨ w.heap.size ≤ k_) ∧ some k_ ≠ (de : Value).ownBlock) (Kd.R_keptB ((Kd.R_apart' G.out (Kd.R_typed aC.out) (by decide))) hkp (fun k_ hk_ hs_ => Or.elim hs_ (fun e_ => (hk_.2) e_) (fun e_ => (hk_.1.2) e_))) (fun k_ hk_ => ⟨hk_.1.1.1, fun e_ => Or.elim (aj.1 k_ e_.symm) (fun hs_ => hk_.2.1 hs_) (fun hn_ => Nat.not_le.2 hk_.2.2 hn_)⟩))
     replace HK := am (Kept.then_ (S := (fun k_ => L k_ ∨ O k_)) (ts HK.out) hkp (fun k_ hs_ => Or.elim hs_ (fun e_ => (fun e_ => (aC.out.1 k_ e_.symm).1.1) e_) (fun e_ => (fun e_ => (aD.out.1 k_ e_.symm).1.1) e_)))
     replace HB := am hb
     clear aC aD
     (try clear hb)
     (try clear hkp)
     (try clear an)
     (try clear aj)
     obtain ⟨df, dg, ck⟩ := Kd.R_slice ci.out
     (first | subst ck | (injection ck with ak ax al; have ay := ak.symm; have az := al.symm; clear ak ax al; subst ay; subst az))
     obtain ⟨dh, di, cl⟩ := Kd.R_slice cj.out
     (first | subst cl | (injection cl with ak ax al; have ay := ak.symm; have az := al.symm; clear ak ax al; subst ay; subst az))
     refine hK.out _ _ ⟨cx z 0, cx z 1, cx y 0, cx y 1, cx y 2, cx y 3, cx y 4, cx y 5, cx y 6, cx y 7⟩ (fun hHeld => ?_)
     clear hK K
     refine nrm 34 ?_
     refine on0 6 (fun K hK => ?_)
     have fJ : ch.cell? ⟨J, 0, none⟩ = some (.slice none 0 0) := cx I 0
     have fK := blk_frozen I.out 0
     have fL := ai.out
     have fM := X.out
     have fN := av.out
     have fO := aw.out
     have fP : ch.cell? ⟨J, 1, none⟩ = some (.slice none 0 0) := cx I 1
     have fQ := blk_frozen I.out 1
     have fR := ai.out
     have fS := X.out
     have fT := av.out
     have fU := aw.out
     refine sk ?_
     refine hK.out _ _ ⟨((cell_far (p := ⟨J, _, none⟩) ai.out _).trans (((cell_far (p := ⟨J, _, none⟩) ai.out _).trans (hHeld.1)))), ((cell_far (p := ⟨J, _, none⟩) ai.out _).trans (((cell_far (p := ⟨J, _, none⟩) ai.out _).trans (hHeld.2.1)))), ((cell_far (p := ⟨J, _, none⟩) X.out _).trans (((cell_far (p := ⟨J, _, none⟩) X.out _).trans (hHeld.2.2.1)))), ((cell_far (p := ⟨J, _, none⟩) X.out _).trans (((cell_far (p := ⟨J, _, none⟩) X.out _).trans (hHeld.2.2.2.1)))), ((cell_far (p := ⟨J, _, none⟩) X.out _).trans (((cell_far (p := ⟨J, _, none⟩) X.out _).trans (hHeld.2.2.2.2.1)))), ((cell_far (p := ⟨J, _, none⟩) X.out _).trans (((cell_far (p := ⟨J, _, none⟩) X.out _).trans (hHeld.2.2.2.2.2.1)))), ((cell_far (p := ⟨J, _, none⟩) X.out _).trans (((cell_far (p := ⟨J, _, none⟩) X.out _).trans (hHeld.2.2.2.2.2.2.1)))), ((cell_far (p := ⟨J, _, none⟩) X.out _).trans (((cell_far (p := ⟨J, _, none⟩) X.out _).trans (hHeld.2.2.2.2.2.2.2.1)))), ((cell_far (p := ⟨J, _, none⟩) X.out _).trans (((cell_far (p := ⟨J, _, none⟩) X.out _).trans (hHeld.2.2.2.2.2.2.2.2.1)))), ((cell_far (p := ⟨J, _, none⟩) X.out _).trans (((cell_far (p := ⟨J, _, none⟩) X.out _).trans (hHeld.2.2.2.2.2.2.2.2.2))))⟩ (fun hHeld => ?_)
     clear hK K
     refine pu 7 5 ?_
     refine dn ?_
     try go_wp2
     refine bodyPost_ret (results_ct rfl _ _ J 34 #[.slice df b6.length dg, .slice dh b7.length di] (0, 0) _ rfl (bp I.out rfl) Try.underlying34 rfl (by kernel_rfl)) rfl ?_
     exact ⟨_, _, eqr, Kd.R_mono (rt ci.out I.out (by decide)) (fun _ hk => hk.1), Kd.R_mono (rt cj.out I.out (by decide)) (fun _ hk => hk.1), bs HB.out, ts HK.out⟩
    ·rw [if_neg aK] at H
     have c2 : (T == 2) = false := beq_eq_false_iff_ne.mpr aK
     have c3 : (T != 2) = true := bne_iff_ne.mpr aK
     by_cases aL : T = 3
     ·rw [if_pos aL] at H
      have dj : (T == 3) = true := beq_iff_eq.mpr aL
      have dk : (T != 3) = false := bne_eq_false_iff_eq.mpr aL
      clear aL
      replace H := Option.bind_eq_some_iff.mp H
      obtain ⟨⟨cm, cn⟩, co, H⟩ := H
      try dsimp -simprocs only at H
      have dl := am co
      clear co
      simp only [Option.some.injEq, Prod.mk.injEq] at H
      obtain ⟨rfl, rfl, rfl⟩ := H
      obtain ⟨bi, bj, dm⟩ := Kd.R_slice D.out
      subst dm
      obtain ⟨bk, bl, dp⟩ := Kd.R_slice G.out
      subst dp
      go_enter Try.func96, Try.ntmps96
      go_wp2_with (first | ((with_reducible refine gd 2 rfl ?_); refine bx 2 (cs := #[.slice bi af.length bj, .slice bk ag.length bl]) (t := 34) ?_; intro au hg fV hbox hb; replace D := rb D hb; replace G := rb G hb; have z := am hbox; have aM := Ge.mk ((by rw [hg]; exact (by first | exact HK.out.1 | exact (show Kept w _ (fun k_ => L k_ ∨ O k_) from ts HK.out).1) : w.heap.size ≤ au)); replace HK := kl HK hb; have aN := gwb HB hg; replace HB := hs HB hb; clear hb hbox hg) | ((with_reducible refine gd 3 rfl ?_); refine bx 3 (cs := #[.int .i64 T, .int .i64 Y, .int .i64 Z, .int .i64 aa, .int .i64 ab, .int .i64 ac, .int .i64 ad, .int .i64 ae]) (t := 58) ?_; intro ah hg fW hbox hb; replace D := rb D hb; replace G := rb G hb; have y := am hbox; have aO := Ge.mk ((by rw [hg]; exact (by first | exact HK.out.1 | exact (show Kept w _ (fun k_ => L k_ ∨ O k_) from ts HK.out).1) : w.heap.size ≤ ah)); replace HK := kl HK hb; have aP := gwb HB hg; replace HB := hs HB hb; have aE := nq z hg; have aF := nq' z hg; replace z := bb z hb rfl; clear hb hbox hg) | ((with_reducible refine gd 4 rfl ?_); refine bx 4 (cs := #[.slice none 0 0, .slice none 0 0]) (t := 34) ?_; intro J hg dq hbox hb; replace D := rb D hb; replace G := rb G hb; have I := am hbox; have aQ := Ge.mk ((by rw [hg]; exact (by first | exact HK.out.1 | exact (show Kept w _ (fun k_ => L k_ ∨ O k_) from ts HK.out).1) : w.heap.size ≤ J)); replace HK := kl HK hb; have aR := gwb HB hg; replace HB := hs HB hb; have ai := nq z hg; have av := nq' z hg; replace z := bb z hb rfl; have X := nq y hg; have aw := nq' y hg; replace y := bb y hb rfl; clear hb hbox hg; have fX := aF.out; have fY := aE.out; have fZ := X.out; have f0 := aw.out; obtain ⟨f1, f2, f3, f4, f5, f6, f7, f8⟩ := bc8 (w := dq) y.out; have f9 := blk_frozen y.out) | ((with_reducible refine gc 44 rfl ?_); refine gl 8 Try.func44 #[.agg #[.int .i64 T, .int .i64 Y, .int .i64 Z, .int .i64 aa, .int .i64 ab, .int .i64 ac, .int .i64 ad, .int .i64 ae]] ?_; (with_reducible refine (spec_OpLabel.calls k T Y Z aa ab ac ad ae aH _ A3.out).mono ?_); rintro e cp ⟨rfl, hb⟩; refine ⟨_, rfl, ?_⟩; replace D := rb D hb; replace G := rb G hb; replace z := bb z hb rfl; replace y := bb y hb rfl; replace I := bb I hb rfl; replace HK := kl HK hb; replace HB := hs HB hb; (try clear hb); have ga := ai.out; have gb := av.out; obtain ⟨gf, gg⟩ := bc2 (w := cp) z.out; have gh := blk_frozen z.out; obtain ⟨gi, gj, gm, gn, go, gp, gq, gt⟩ := bc8 (w := cp) y.out; have gu := blk_frozen y.out) | ((with_reducible refine gc 123 rfl ?_); refine gl 13 Try.func123 #[.agg #[.slice bi af.length bj, .slice bk ag.length bl], .agg #[.int .i64 T, .int .i64 Y, .int .i64 Z, .int .i64 aa, .int .i64 ab, .int .i64 ac, .int .i64 ad, .int .i64 ae]] ?_; (with_reducible refine (spec_l2Ends.calls k _ _ af _ _ ag T Y Z aa ab ac ad ae aG _ ?ao ?ap ?aq ?ar aS.out).mono ?_); (case ao => exact cr D); (case ap => exact cc D); (case aq => exact cr G); (case ar => exact cc G); rintro e ct ⟨rfl, hb⟩; refine ⟨_, rfl, ?_⟩; replace D := rb D hb; replace G := rb G hb; replace z := bb z hb rfl; replace y := bb y hb rfl; replace I := bb I hb rfl; replace HK := kl HK hb; replace HB := hs HB hb; (try clear hb); obtain ⟨gv, gw, gx, gy, gz, gA, gB, gC⟩ := bc8 (w := ct) y.out; have gD := blk_frozen y.out; obtain ⟨gE, gF⟩ := bc2 (w := ct) z.out; have gG := blk_frozen z.out) | ((with_reducible refine gc 125 rfl ?_); refine gl 41 Try.func125 #[.agg #[.slice bi af.length bj, .slice bk ag.length bl], .agg #[.int .i64 aa, .int .i64 ab, .int .i64 ac, .int .i64 ad, .int .i64 ae]] ?_; (with_reducible refine (spec_l2Cut.calls k (fun k_ => some k_ = (.slice bi af.length bj : Value).ownBlock) (.slice bi af.length bj) af _ _ ag aa ab ac ad ae cm cn w0 _ ?ao ?ap ?aq ?ar dl.out).mono ?_); (case ao => exact bs HB.out); (case ap => exact Kd.R_tight rfl D.out); (case aq => exact Kd.C_kept_own ((Kd.R_apart' G.out (Kd.R_typed D.out) (by decide))) (fun k_ hk_ hs_ => (hk_.2) hs_)); (case ar => exact cc G); rintro e dr ⟨gH, dt, rfl, an, aj, hb, hkp⟩; refine ⟨_, rfl, ?_⟩; replace z := am (blk_kept (bf z.out) hkp (fun hs_ => (fun e_ => (Kd.R_ne D.out z.out (by decide)) e_) hs_)); replace y := am (blk_kept (bf y.out) hkp (fun hs_ => (fun e_ => (Kd.R_ne D.out y.out (by decide)) e_) hs_)); replace I := am (blk_kept (bf I.out) hkp (fun hs_ => (fun e_ => (Kd.R_ne D.out I.out (by decide)) e_) hs_)); have cu := am (Kd.R_mono (ok' := fun k_ => ((L k_ ∨ O k_) ∨ w.heap.size ≤ k_)) an (fun k_ hk_ => Or.elim hk_ (fun hs_ => (D.out.1 k_ (hs_).symm)) (fun hn_ => (.inr (Nat.le_trans (by first | exact HK.out.1 | exact (show Kept w _ (fun k_ => L k_ ∨ O k_) from ts HK.out).1) hn_))))); have cv := am (Kd.R_mono (ok' := fun k_ => ((L k_ ∨ O k_) ∨ w.heap.size ≤ k_) ∧ some k_ ≠ (.slice bk ag.length bl : Value).ownBlock) aj (fun k_ hk_ => ⟨Or.elim hk_ (fun hs_ => (D.out.1 k_ (hs_).symm)) (fun hn_ => (.inr (Nat.le_trans (by first | exact HK.out.1 | exact (show Kept w _ (fun k_ => L k_ ∨ O k_) from ts HK.out).1) hn_))), Or.elim hk_ (fun hs_ => fun e_ => ((((Kd.R_apart' G.out (Kd.R_typed D.out) (by decide))).1 k_ e_.symm).2) hs_) (fun hn_ => (Kd.fresh' (rk G) k_ hn_))⟩)); replace G := am (Kd.R_mono (ok' := fun k_ => ((L k_ ∨ O k_) ∨ w.heap.size ≤ k_) ∧ some k_ ≠ (dt : Value).ownBlock) (Kd.R_keptB ((Kd.R_apart' G.out (Kd.R_typed D.out) (by decide))) hkp (fun k_ hk_ hs_ => (hk_.2) hs_)) (fun k_ hk_ => ⟨hk_.1.1, fun e_ => Or.elim (aj.1 k_ e_.symm) (fun hs_ => hk_.2.1 hs_) (fun hn_ => Nat.not_le.2 hk_.2.2 hn_)⟩)); replace HK := am (Kept.then_ (S := (fun k_ => L k_ ∨ O k_)) (ts HK.out) hkp (fun k_ hs_ => (fun e_ => (D.out.1 k_ e_.symm)) hs_)); replace HB := am hb; clear D; (try clear hb); (try clear hkp); (try clear an); (try clear aj); obtain ⟨du, dv, dw⟩ := Kd.R_slice cu.out; subst dw; obtain ⟨gI, gJ⟩ := bc2 (w := dr) I.out; have gK := blk_frozen I.out; obtain ⟨dx, dy, dz⟩ := Kd.R_slice cv.out; subst dz))
      refine bodyPost_ret (results_ct rfl _ _ J 34 #[.slice du cm.length dv, .slice dx cn.length dy] (0, 0) _ rfl (bp I.out rfl) Try.underlying34 rfl (by kernel_rfl)) rfl ?_
      exact ⟨_, _, eqr, Kd.R_mono (rt cu.out I.out (by decide)) (fun _ hk => hk), Kd.R_mono (rt cv.out I.out (by decide)) (fun _ hk => hk.1), bs HB.out, ts HK.out⟩
     ·rw [if_neg aL] at H
      have dj : (T == 3) = false := beq_eq_false_iff_ne.mpr aL
      have dk : (T != 3) = true := bne_iff_ne.mpr aL
      replace H := Option.bind_eq_some_iff.mp H
      obtain ⟨⟨cy, cz⟩, cA, H⟩ := H
      try dsimp -simprocs only at H
      have dA := am cA
      clear cA
      simp only [Option.some.injEq, Prod.mk.injEq] at H
      obtain ⟨rfl, rfl, rfl⟩ := H
      obtain ⟨bB, bC, dB⟩ := Kd.R_slice D.out
      subst dB
      obtain ⟨bD, bE, dC⟩ := Kd.R_slice G.out
      subst dC
      go_enter Try.func96, Try.ntmps96
      go_wp2_with (first | ((with_reducible refine gd 2 rfl ?_); refine bx 2 (cs := #[.slice bB af.length bC, .slice bD ag.length bE]) (t := 34) ?_; intro au hg gL hbox hb; replace D := rb D hb; replace G := rb G hb; have z := am hbox; have aM := Ge.mk ((by rw [hg]; exact (by first | exact HK.out.1 | exact (show Kept w _ (fun k_ => L k_ ∨ O k_) from ts HK.out).1) : w.heap.size ≤ au)); replace HK := kl HK hb; have aN := gwb HB hg; replace HB := hs HB hb; clear hb hbox hg) | ((with_reducible refine gd 3 rfl ?_); refine bx 3 (cs := #[.int .i64 T, .int .i64 Y, .int .i64 Z, .int .i64 aa, .int .i64 ab, .int .i64 ac, .int .i64 ad, .int .i64 ae]) (t := 58) ?_; intro ah hg gM hbox hb; replace D := rb D hb; replace G := rb G hb; have y := am hbox; have aO := Ge.mk ((by rw [hg]; exact (by first | exact HK.out.1 | exact (show Kept w _ (fun k_ => L k_ ∨ O k_) from ts HK.out).1) : w.heap.size ≤ ah)); replace HK := kl HK hb; have aP := gwb HB hg; replace HB := hs HB hb; have aE := nq z hg; have aF := nq' z hg; replace z := bb z hb rfl; clear hb hbox hg) | ((with_reducible refine gd 4 rfl ?_); refine bx 4 (cs := #[.slice none 0 0, .slice none 0 0]) (t := 34) ?_; intro J hg dD hbox hb; replace D := rb D hb; replace G := rb G hb; have I := am hbox; have aQ := Ge.mk ((by rw [hg]; exact (by first | exact HK.out.1 | exact (show Kept w _ (fun k_ => L k_ ∨ O k_) from ts HK.out).1) : w.heap.size ≤ J)); replace HK := kl HK hb; have aR := gwb HB hg; replace HB := hs HB hb; have ai := nq z hg; have av := nq' z hg; replace z := bb z hb rfl; have X := nq y hg; have aw := nq' y hg; replace y := bb y hb rfl; clear hb hbox hg; have gN := aF.out; have gO := aE.out; have gP := X.out; have gQ := aw.out; obtain ⟨gR, gS, gT, gU, gV, gW, gX, gY⟩ := bc8 (w := dD) y.out; have gZ := blk_frozen y.out) | ((with_reducible refine gc 44 rfl ?_); refine gl 8 Try.func44 #[.agg #[.int .i64 T, .int .i64 Y, .int .i64 Z, .int .i64 aa, .int .i64 ab, .int .i64 ac, .int .i64 ad, .int .i64 ae]] ?_; (with_reducible refine (spec_OpLabel.calls k T Y Z aa ab ac ad ae aH _ A3.out).mono ?_); rintro e cB ⟨rfl, hb⟩; refine ⟨_, rfl, ?_⟩; replace D := rb D hb; replace G := rb G hb; replace z := bb z hb rfl; replace y := bb y hb rfl; replace I := bb I hb rfl; replace HK := kl HK hb; replace HB := hs HB hb; (try clear hb); have g0 := ai.out; have g1 := av.out; obtain ⟨g2, g3⟩ := bc2 (w := cB) z.out; have g4 := blk_frozen z.out; obtain ⟨g5, g6, g7, g8, g9, hh, hj, ho⟩ := bc8 (w := cB) y.out; have hp := blk_frozen y.out) | ((with_reducible refine gc 123 rfl ?_); refine gl 13 Try.func123 #[.agg #[.slice bB af.length bC, .slice bD ag.length bE], .agg #[.int .i64 T, .int .i64 Y, .int .i64 Z, .int .i64 aa, .int .i64 ab, .int .i64 ac, .int .i64 ad, .int .i64 ae]] ?_; (with_reducible refine (spec_l2Ends.calls k _ _ af _ _ ag T Y Z aa ab ac ad ae aG _ ?ao ?ap ?aq ?ar aS.out).mono ?_); (case ao => exact cr D); (case ap => exact cc D); (case aq => exact cr G); (case ar => exact cc G); rintro e cC ⟨rfl, hb⟩; refine ⟨_, rfl, ?_⟩; replace D := rb D hb; replace G := rb G hb; replace z := bb z hb rfl; replace y := bb y hb rfl; replace I := bb I hb rfl; replace HK := kl HK hb; replace HB := hs HB hb; (try clear hb); obtain ⟨hu, hv, hx, hy, hz, hA, hC, hD⟩ := bc8 (w := cC) y.out; have hE := blk_frozen y.out; obtain ⟨hF, hG⟩ := bc2 (w := cC) z.out; have hH := blk_frozen z.out) | ((with_reducible refine gc 126 rfl ?_); refine gl 46 Try.func126 #[.agg #[.slice bB af.length bC, .slice bD ag.length bE], .agg #[.int .i64 Y, .int .i64 Z]] ?_; (with_reducible refine (spec_l2Off.calls k _ _ af _ _ ag Y Z cy cz _ ?ao ?ap ?aq ?ar dA.out).mono ?_); (case ao => exact cr D); (case ap => exact cc D); (case aq => exact cr G); (case ar => exact cc G); rintro e dE ⟨hJ, hL, rfl, an, aj, hb⟩; refine ⟨_, rfl, ?_⟩; have cD := am (Kd.R_lower (Kd.R_new' (Kd.R_newM (M := fun k_ => ((L k_ ∨ O k_) ∨ w.heap.size ≤ k_)) an (by first | exact HK.out.1 | exact (show Kept w _ (fun k_ => L k_ ∨ O k_) from ts HK.out).1) (fun k_ h_ => .inr h_)) (rk D)) (below_size (bs HB.out))); replace D := re D an hb; have cE := am (Kd.R_lower (Kd.R_new' (Kd.R_newM (M := fun k_ => ((L k_ ∨ O k_) ∨ w.heap.size ≤ k_)) aj (by first | exact HK.out.1 | exact (show Kept w _ (fun k_ => L k_ ∨ O k_) from ts HK.out).1) (fun k_ h_ => .inr h_)) (rk G)) (below_size (bs HB.out))); replace G := re G aj hb; replace z := bb z hb rfl; replace y := bb y hb rfl; replace I := bb I hb rfl; replace HK := kl HK hb; replace HB := hs HB hb; (try clear hb); (try clear hb2); (try clear hk); (try clear hi); (try clear an); (try clear aj); obtain ⟨dF, dG, dH⟩ := Kd.R_slice cD.out; subst dH; obtain ⟨hM, hO⟩ := bc2 (w := dE) I.out; have hP := blk_frozen I.out; obtain ⟨dI, dJ, dK⟩ := Kd.R_slice cE.out; subst dK))
      refine bodyPost_ret (results_ct rfl _ _ J 34 #[.slice dF cy.length dG, .slice dI cz.length dJ] (0, 0) _ rfl (bp I.out rfl) Try.underlying34 rfl (by kernel_rfl)) rfl ?_
      exact ⟨_, _, eqr, Kd.R_mono (rt cD.out I.out (by decide)) (fun _ hk => hk.1.1), Kd.R_mono (rt cE.out I.out (by decide)) (fun _ hk => hk.1.1), bs HB.out, ts HK.out⟩
  ·rw [if_neg aI] at H
   have cM : (aG == 0) = false := beq_eq_false_iff_ne.mpr aI
   have cN : (aG != 0) = true := bne_iff_ne.mpr aI
   simp only [Option.some.injEq, Prod.mk.injEq] at H
   obtain ⟨rfl, rfl, rfl⟩ := H
   obtain ⟨bF, bG, dL⟩ := Kd.R_slice D.out
   subst dL
   obtain ⟨bH, bI, dM⟩ := Kd.R_slice G.out
   subst dM
   go_enter Try.func96, Try.ntmps96
   go_wp2_with (first | ((with_reducible refine gd 2 rfl ?_); refine bx 2 (cs := #[.slice bF af.length bG, .slice bH ag.length bI]) (t := 34) ?_; intro au hg hR hbox hb; replace D := rb D hb; replace G := rb G hb; have z := am hbox; have aM := Ge.mk ((by rw [hg]; exact (by first | exact HK.out.1 | exact (show Kept w _ (fun k_ => L k_ ∨ O k_) from ts HK.out).1) : w.heap.size ≤ au)); replace HK := kl HK hb; have aN := gwb HB hg; replace HB := hs HB hb; clear hb hbox hg) | ((with_reducible refine gd 3 rfl ?_); refine bx 3 (cs := #[.int .i64 T, .int .i64 Y, .int .i64 Z, .int .i64 aa, .int .i64 ab, .int .i64 ac, .int .i64 ad, .int .i64 ae]) (t := 58) ?_; intro ah hg hT hbox hb; replace D := rb D hb; replace G := rb G hb; have y := am hbox; have aO := Ge.mk ((by rw [hg]; exact (by first | exact HK.out.1 | exact (show Kept w _ (fun k_ => L k_ ∨ O k_) from ts HK.out).1) : w.heap.size ≤ ah)); replace HK := kl HK hb; have aP := gwb HB hg; replace HB := hs HB hb; have aE := nq z hg; have aF := nq' z hg; replace z := bb z hb rfl; clear hb hbox hg) | ((with_reducible refine gd 4 rfl ?_); refine bx 4 (cs := #[.slice none 0 0, .slice none 0 0]) (t := 34) ?_; intro J hg dN hbox hb; replace D := rb D hb; replace G := rb G hb; have I := am hbox; have aQ := Ge.mk ((by rw [hg]; exact (by first | exact HK.out.1 | exact (show Kept w _ (fun k_ => L k_ ∨ O k_) from ts HK.out).1) : w.heap.size ≤ J)); replace HK := kl HK hb; have aR := gwb HB hg; replace HB := hs HB hb; have ai := nq z hg; have av := nq' z hg; replace z := bb z hb rfl; have X := nq y hg; have aw := nq' y hg; replace y := bb y hb rfl; clear hb hbox hg; have hU := aF.out; have hV := aE.out; have hW := X.out; have hX := aw.out; obtain ⟨hY, hZ, h0, h1, h2, h3, h4, h5⟩ := bc8 (w := dN) y.out; have h6 := blk_frozen y.out) | ((with_reducible refine gc 44 rfl ?_); refine gl 8 Try.func44 #[.agg #[.int .i64 T, .int .i64 Y, .int .i64 Z, .int .i64 aa, .int .i64 ab, .int .i64 ac, .int .i64 ad, .int .i64 ae]] ?_; (with_reducible refine (spec_OpLabel.calls k T Y Z aa ab ac ad ae aH _ A3.out).mono ?_); rintro e cF ⟨rfl, hb⟩; refine ⟨_, rfl, ?_⟩; replace D := rb D hb; replace G := rb G hb; replace z := bb z hb rfl; replace y := bb y hb rfl; replace I := bb I hb rfl; replace HK := kl HK hb; replace HB := hs HB hb; (try clear hb); have h7 := ai.out; have h8 := av.out; obtain ⟨h9, ia⟩ := bc2 (w := cF) z.out; have ic := blk_frozen z.out; obtain ⟨ie, ig, ih, ii, ij, ik, il, im⟩ := bc8 (w := cF) y.out; have io := blk_frozen y.out) | ((with_reducible refine gc 123 rfl ?_); refine gl 13 Try.func123 #[.agg #[.slice bF af.length bG, .slice bH ag.length bI], .agg #[.int .i64 T, .int .i64 Y, .int .i64 Z, .int .i64 aa, .int .i64 ab, .int .i64 ac, .int .i64 ad, .int .i64 ae]] ?_; (with_reducible refine (spec_l2Ends.calls k _ _ af _ _ ag T Y Z aa ab ac ad ae aG _ ?ao ?ap ?aq ?ar aS.out).mono ?_); (case ao => exact cr D); (case ap => exact cc D); (case aq => exact cr G); (case ar => exact cc G); rintro e cG ⟨rfl, hb⟩; refine ⟨_, rfl, ?_⟩; replace D := rb D hb; replace G := rb G hb; replace z := bb z hb rfl; replace y := bb y hb rfl; replace I := bb I hb rfl; replace HK := kl HK hb; replace HB := hs HB hb; (try clear hb); obtain ⟨ip, iq⟩ := bc2 (w := cG) z.out; have ir := blk_frozen z.out; obtain ⟨it, iu⟩ := bc2 (w := cG) I.out; have iv := blk_frozen I.out))
   refine bodyPost_ret (results_ct rfl _ _ J 34 #[.slice bF af.length bG, .slice bH ag.length bI] (0, 0) _ rfl (bp I.out rfl) Try.underlying34 rfl (by kernel_rfl)) rfl ?_
   exact ⟨_, _, eqr, Kd.R_mono (rt D.out I.out (by decide)) (fun _ hk => hk), Kd.R_mono (rt G.out I.out (by decide)) (fun _ hk => hk), bs HB.out, ts HK.out⟩

/-! ### spec_l2Graph: function 87 -/
def spec_l2Graph.l0 : Nat → Int → List Int → Int → List (S36) → List (S56) → Option ((List (S36)) × (List (S56)) × Int)
 | 0, _, _, _, _, _ => none
 | k + 1, D, G, I, y, z => if D > 0 then ((spec_l2Op.f k G I y z).bind fun s => ((spec_l2Do.f k y z s.1 s.2.1 s.2.2.1 s.2.2.2.1 s.2.2.2.2.1 s.2.2.2.2.2.1 s.2.2.2.2.2.2.1 s.2.2.2.2.2.2.2.1).bind fun J => (spec_l2Graph.l0 k (wrap64 (D - 1)) G s.2.2.2.2.2.2.2.2 J.1 J.2.1))) else ((spec_l2Copy.f y z).bind fun L => (some (L.1, L.2, I)))
def spec_l2Graph.f (k : Nat) (s : List Int) (z : Int) : Option ((List (S36)) × (List (S56)) × Int) := (spec_l9Rd_num.f k s z (([12, 24, 36, 48, 60, 5, 0] : List Int))).bind fun y => (spec_l2Graph.l0 k y.1 s y.2 ([] : List (S36)) ([] : List (S56)))
def spec_l2Graph.T5 : Bool × List (List Nat × List Nat) := (true, [([], []), ([], []), ([], []), ([1, 2], [1, 2]), ([0, 3, 3], [0, 3]), ([4], [4]), ([5], [5]), ([5], [5]), ([6, 4, 0, 1, 2, 3, 4, 5, 6], [6])])
def spec_l2Graph.B5 : List Nat := [0, 0, 0, 6, 15, 31, 63, 63, 127]
theorem spec_l2Graph.tab5 : rtab .any (opsOf Try.f87 5) = spec_l2Graph.T5 := by kernel_rfl
theorem spec_l2Graph.bits5 : waitsOk spec_l2Graph.T5.2 spec_l2Graph.B5 = true := by kernel_rfl
theorem spec_l2Graph.calls (k : Nat) (g : Nat) (L : List Int) (aq : Int) (r1 : List (S36)) (r2 : List (S56)) (r3 : Int) (w0 w : World) (hI : IsS126 w0 w g L aq) (hB : Below w0.heap.size w0 w) (h : spec_l2Graph.f k L aq = some (r1, r2, r3)) :
  Calls Try.prog 87 #[.pointer (some ⟨g, 0, none⟩)] w fun e w' => ∃ aO aP : Value, e = .returned (.agg #[aO, aP]) ∧ Kd.R k36 36 w' w.heap.size (fun _ => True) aO r1 ∧ Kd.R k56 56 w' w.heap.size (fun _ => True) aP r2 ∧ IsS126 w0 w' g L r3 ∧ Below w0.heap.size w0 w' ∧ KeepBut w w' g none := by
 have hu34 := Try.underlying34
 have y := am hI
 have GEg_ : Ge w0 g := ⟨IsS126.ge y.out⟩
 have HK := am (KeepBut.refl w g none)
 have HL := am hB.size
 clear hI
 have aQ := am hB.size
 have HB := am hB
 clear hB
 have H := h; unfold spec_l2Graph.f at H
 clear h
 obtain ⟨ay, az⟩ : ∃ y_ : List Int, y_ = (([12, 24, 36, 48, 60, 5, 0] : List Int)) := ⟨_, rfl⟩
 replace H : ((spec_l9Rd_num.f k L aq ay).bind fun aR => (spec_l2Graph.l0 k aR.1 L aR.2 ([] : List (S36)) ([] : List (S56)))) = some (r1, r2, r3) := by first | (rw [az]; exact H) | exact H
 have aS := am az
 clear az
 replace H := Option.bind_eq_some_iff.mp H
 obtain ⟨⟨aT, aU⟩, aV, H⟩ := H
 try dsimp -simprocs only at H
 have A2 := am aV
 clear aV
 have H' := am H
 clear H
 go_enter Try.func87, Try.ntmps87
 go_wp2_with (first | ((with_reducible refine gd 2 rfl ?_); refine bx 2 (cs := #[.slice none 0 0, .slice none 0 0]) (t := 34) ?_; intro aA hg w3 hbox hb; replace HB := hs HB hb; have z := am hbox; have bw := gwk HK hg; have b2 := gew aQ bw; replace HK := kb HK hb; have aW := nlt y hg; have bz := nsy aW; replace y := ib y hb; clear hb hbox hg) | ((with_reducible refine gd 3 rfl ?_); refine bx 3 (cs := #[.slice none 0 0, .slice none 0 0]) (t := 34) ?_; intro aa hg w4 hbox hb; replace HB := hs HB hb; have s := am hbox; have bA := gwk HK hg; have b3 := gew aQ bA; replace HK := kb HK hb; have av := nq z hg; have aw := nq' z hg; replace z := bb z hb rfl; have aB := nlt y hg; have aX := nsy aB; replace y := ib y hb; clear hb hbox hg; have b4 := aw.out; have b5 := av.out; have b6 := aX.out; have b7 := aB.out; obtain ⟨bB, bC⟩ := bc2 (w := w4) s.out; have bD := blk_frozen s.out) | ((with_reducible refine gd 7 rfl ?_); refine rli (k := .i64) 3 7 ([12, 24, 36, 48, 60, 5, 0] : List Int) ?_; intro b8 w8 ar hb hg_ hnew_; clear hg_ hnew_; (first | rw [← aS.out] at ar | (simp only [Int.reduceToNat] at ar; rw [← aS.out] at ar)); have an := am (Kd.R_lower ar (keep_size (w := w) (g := g) (row := none) (ks HK.out))); replace y := am (IsS126.below (show IsS126 w0 ((w4.setCell ⟨aa, 0, none⟩ (.slice none 0 0)).setCell ⟨aa, 1, none⟩ (.slice none 0 0)) g L aq from iis y.out) hb); replace z := am (blk_below (g := aA) (o := .cells #[.slice none 0 0, .slice none 0 0] 34 (0, 0)) (bf z.out) hb); replace s := bq #[.slice none 0 0, .slice none 0 0] s hb; replace HK := kb HK hb; replace HB := hs HB hb; clear hb ar; obtain ⟨bE, bF, bG⟩ := Kd.R_slice an.out; subst bG) | ((with_reducible refine gc 119 rfl ?_); refine gl 8 Try.func119 #[.pointer (some ⟨g, 0, none⟩), .slice bE ay.length bF] ?_; (with_reducible refine (spec_l9Rd_num.calls k g L aq _ _ ay aT aU w0 _ ?ab ?ac ?ad ?au ?aC A2.out).mono ?_); (case ab => exact iis y.out); (case ac => exact bs HB.out); (case ad => exact cr an); (case au => exact cc an); (case aC => exact far_slice (IsS126.own_ne y.out an.out (by decide))); rintro e b9 ⟨rfl, hi, hb, hk⟩; refine ⟨_, rfl, ?_⟩; replace z := kk z hk; replace s := kk s hk; replace an := ro an y hk; replace HK := kt HK hk; replace HB := am hb; replace y := am hi; (try clear hi hb hk)))
 go_loopg [4] k (fun kq v4 w' => ∃ (ae : Int) (ao : Int) (J : List (S36)) (I : List (S56)) (aD : Value) (aE : Value), v4 = .int .i64 ae ∧ Aside0 (spec_l2Graph.l0 kq ae L ao J I = some (r1, r2, r3)) ∧ Aside0 (kq ≤ k) ∧ Aside0 (Kd.R k36 36 w' w.heap.size (fun _ => True) aD J) ∧ Aside0 (Kd.R k56 56 w' w.heap.size (fun _ => True) aE I) ∧ Aside0 (w'.heap[aA]? = some (.cells #[(.slice none 0 0), (.slice none 0 0)] 34 (0, 0))) ∧ Aside0 (w'.heap[aa]? = some (.cells #[aD, aE] 34 (0, 0))) ∧ Aside0 (IsS126 w0 w' g L ao) ∧ Aside0 (KeepBut w w' g none) ∧ Aside0 (Below w0.heap.size w0 w'))
 case atStart => exact ⟨(aT), (aU), (([] : List (S36))), (([] : List (S56))), (.slice none 0 0), (.slice none 0 0), eqs, H', ⟨Nat.le_refl _⟩, ⟨by first | exact Kd.R_nil _ _ _ _ _ | exact Kd.N_nil _ _ _ _ _ | exact Kd.V_nil _ _ _ _ _ | exact Kd.Q_nil _ _ _ _ _ | exact Kd.S_nil _ _ _ _ _⟩, ⟨by first | exact Kd.R_nil _ _ _ _ _ | exact Kd.N_nil _ _ _ _ _ | exact Kd.V_nil _ _ _ _ _ | exact Kd.Q_nil _ _ _ _ _ | exact Kd.S_nil _ _ _ _ _⟩, ⟨bf z.out⟩, ⟨bf s.out⟩, ⟨iis y.out⟩, ⟨ks HK.out⟩, ⟨bs HB.out⟩⟩
 case round =>
  clear H'
  try clear c1
  try clear p2
  try clear c5
  try clear c6
  try clear c8
  try clear ce
  try clear bB bC
  try clear bD
  obtain ⟨ae, ao, J, I, aD, aE, rfl, HA, aY, D, G, z, s, y, HK, HB⟩ := hrel
  cases gk with
  | zero => exact absurd HA.out (by simp [spec_l2Graph.l0])
  | succ k1 =>
   have H := HA.out
   clear HA
   simp only [spec_l2Graph.l0] at H
   by_cases ap : ae > 0
   ·rw [if_pos ap] at H
    have bH : decide (0 < ae) = true := decide_eq_true ap
    clear ap
    replace H := Option.bind_eq_some_iff.mp H
    obtain ⟨⟨aF, aG, aH, aI, aJ, aK, aL, aM, aZ⟩, ba, H⟩ := H
    try dsimp -simprocs only at H
    have bI := am ba
    clear ba
    replace H := Option.bind_eq_some_iff.mp H
    obtain ⟨⟨ax, aN, bJ⟩, bc, H⟩ := H
    try dsimp -simprocs only at H
    have bK := am bc
    clear bc
    have H' := am H
    clear H
    try go_wp2
    replace D := rd_ D
    replace G := rd_ G
    replace z := bd z
    replace s := bd s
    replace y := am (IsS126.drew y.out)
    replace HK := am (keep_drew HK.out)
    replace HB := hd HB
    obtain ⟨af, ag, be⟩ := Kd.R_slice D.out
    (first | subst be | (injection be with O ah T; have ai := O.symm; have aj := T.symm; clear O ah T; subst ai; subst aj))
    obtain ⟨Y, Z, bg⟩ := Kd.R_slice G.out
    (first | subst bg | (injection bg with O ah T; have ai := O.symm; have aj := T.symm; clear O ah T; subst ai; subst aj))
    refine sta 9 (fun w' => w'.cell? ⟨aa, 0, none⟩ = some (.slice af J.length ag) ∧ w'.cell? ⟨aa, 1, none⟩ = some (.slice Y I.length Z)) [8] ⟨cx s 0, cx s 1⟩ (fun hHeld => ?_); refine with_tabW spec_l2Graph.tab5 spec_l2Graph.bits5 (fun HT_ HW_ => ?_)
    generalize wr.drew = cf at D G z s y HK HB hHeld ⊢
    refine pu 1 15 ?_
    refine tk 0 14 ?_
    refine tk 2 16 ?_
    refine on 3 17 (fun K hK => ?_)
    refine gs Try.func89 #[.pointer (some ⟨g, 0, none⟩), .agg #[.slice af J.length ag, .slice Y I.length Z]] ?_
    with_reducible refine (spec_l2Op.calls k1 g L ao _ _ J _ _ I aF aG aH aI aJ aK aL aM aZ w0 _ ?ab ?ac ?ad ?au ?aC ?bL bI.out).mono ?_
    (case ab => exact iis y.out)
    (case ac => exact bs HB.out)
    (case ad => exact Kd.C_foot_own (IsS126.apart (show IsS126 w0 _ g L ao from iis y.out) (rl D.out) (by decide)) (fun _ h_ => h_.2))
    (case au => exact cc D)
    (case aC => exact Kd.C_foot_own (IsS126.apart (show IsS126 w0 _ g L ao from iis y.out) (rl G.out) (by decide)) (fun _ h_ => h_.2))
    (case bL => exact cc G)
    rintro e cg ⟨rfl, hi, hb, hk⟩
    refine ⟨_, rfl, ?_⟩
    replace D := ro D y hk
    replace G := ro G y hk
    replace z := kk z hk
    replace s := kk s hk
    replace HK := kt HK hk
    replace HB := am hb
    replace y := am hi
    (try clear hb)
    (try clear hb2)
    (try clear hk)
    (try clear hi)
    refine hK.out _ _ ⟨cx s 0, cx s 1⟩ (fun hHeld => ?_)
    clear hK K
    refine nrm 17 ?_
    refine on 4 18 (fun K hK => ?_)
    refine gs Try.func96 #[.agg #[.slice af J.length ag, .slice Y I.length Z], .agg #[.int .i64 aF, .int .i64 aG, .int .i64 aH, .int .i64 aI, .int .i64 aJ, .int .i64 aK, .int .i64 aL, .int .i64 aM]] ?_
    with_reducible refine (spec_l2Do.calls k1 (fun k_ => some k_ = (.slice af J.length ag : Value).ownBlock) (.slice af J.length ag) J (fun k_ => some k_ = (.slice Y I.length Z : Value).ownBlock) (.slice Y I.length Z) I aF aG aH aI aJ aK aL aM ax aN bJ w0 _ ?ab ?ac ?ad bK.out).mono ?_
    (case ab => exact bs HB.out)
    (case ac => exact Kd.R_lower (Kd.R_tight rfl D.out) HL.out)
    (case ad => exact Kd.R_lower (Kd.R_tight rfl G.out) HL.out)
    rintro e bh ⟨ch, ci, rfl, ak, al, hb, hkp⟩
    refine ⟨_, rfl, ?_⟩
    replace z := am (blk_kept (bf z.out) hkp (fun hs_ => Or.elim hs_ (fun e_ => (fun e_ => (Kd.R_ne D.out z.out (by decide)) e_) e_) (fun e_ => (fun e_ => (Kd.R_ne G.out z.out (by decide)) e_) e_)))
    replace s := am (blk_kept (bf s.out) hkp (fun hs_ => Or.elim hs_ (fun e_ => (fun e_ => (Kd.R_ne D.out s.out (by decide)) e_) e_) (fun e_ => (fun e_ => (Kd.R_ne G.out s.out (by decide)) e_) e_)))
    replace y := am (IsS126.kept (iis y.out) hkp (fun hs_ => Or.elim hs_ (fun e_ => (fun e_ => (IsS126.own_ne y.out D.out (by decide)) e_) e_) (fun e_ => (fun e_ => (IsS126.own_ne y.out G.out (by decide)) e_) e_)))
    have bi := am (Kd.R_mono (ok' := fun k_ => True) (Kd.R_raise (d := k36) (b := w0.heap.size) (b' := w.heap.size) (fun _ _ _ _ h_ => h_) ak (fun k_ e_ => Or.elim (ak.1 k_ e_) (fun hs_ => Or.elim hs_ (fun e_ => (fun e_ => Kd.R_base D.out k_ e_.symm) e_) (fun e_ => (fun e_ => Kd.R_base G.out k_ e_.symm) e_)) (fun hn_ => Nat.le_trans (keep_size (w := w) (g := g) (row := none) (ks HK.out)) hn_))) (fun k_ hk_ => trivial))
    have bj := am (Kd.R_mono (ok' := fun k_ => True) (Kd.R_raise (d := k56) (b := w0.heap.size) (b' := w.heap.size) (fun _ _ _ _ h_ => h_) al (fun k_ e_ => Or.elim (al.1 k_ e_) (fun hs_ => Or.elim hs_ (fun e_ => (fun e_ => Kd.R_base D.out k_ e_.symm) e_) (fun e_ => (fun e_ => Kd.R_base G.out k_ e_.symm) e_)) (fun hn_ => Nat.le_trans (keep_size (w := w) (g := g) (row := none) (ks HK.out)) hn_))) (fun k_ hk_ => trivial))
    replace HK := am (Kept.keepG (ks HK.out) hkp (fun k_ hs_ => Or.elim hs_ (fun e_ => (fun e_ => .inr (Kd.R_base D.out k_ e_.symm)) e_) (fun e_ => (fun e_ => .inr (Kd.R_base G.out k_ e_.symm)) e_)))
    replace HB := am hb
    clear D G
    (try clear hb)
    (try clear hkp)
    (try clear ak)
    (try clear al)
    obtain ⟨bk, bl, bm⟩ := Kd.R_slice bi.out
    (first | subst bm | (injection bm with O ah T; have ai := O.symm; have aj := T.symm; clear O ah T; subst ai; subst aj))
    obtain ⟨bM, bN, bn⟩ := Kd.R_slice bj.out
    (first | subst bn | (injection bn with O ah T; have ai := O.symm; have aj := T.symm; clear O ah T; subst ai; subst aj))
    refine hK.out _ _ ⟨cx s 0, cx s 1⟩ (fun hHeld => ?_)
    clear hK K
    refine nrm 18 ?_
    refine pu 5 13 ?_
    refine pu 6 19 ?_
    refine pu 7 20 ?_
    refine la0 8 (fun K hK => ?_)
    have cj : bh.cell? ⟨aa, 0, none⟩ = some (.slice af J.length ag) := cx s 0
    have ck := blk_frozen s.out 0
    have cl := av.out
    have cm := aw.out
    have cn : bh.cell? ⟨aa, 1, none⟩ = some (.slice Y I.length Z) := cx s 1
    have co := blk_frozen s.out 1
    have cp := av.out
    have ct := aw.out
    refine sk ?_
    refine hK.out _ _ ?_
    clear hK K
    refine dn ?_
    try go_wp2
    go_roundg k1
    case measure => have := aY.out; omega
    case rel => exact ⟨(wrap64 (ae - 1)), (aZ), (ax), (aN), (.slice bk ax.length bl), (.slice bM aN.length bN), eqs, H', ⟨by have := aY.out; omega⟩, ⟨Kd.R_mono (rt bi.out s.out (by decide)) (fun _ hk => trivial)⟩, ⟨Kd.R_mono (rt bj.out s.out (by decide)) (fun _ hk => trivial)⟩, ⟨bf z.out⟩, ⟨by (with_reducible repeat (first | refine blk_drewN ?_ _ | refine blk_drew ?_ | refine blk_alloc ?_ _)); refine blk_put (cs := #[.slice bk ax.length bl, .slice Y I.length Z]) ?_ 1 _ rfl; (with_reducible repeat (first | refine blk_drewN ?_ _ | refine blk_drew ?_ | refine blk_alloc ?_ _)); refine blk_put (cs := #[.slice af J.length ag, .slice Y I.length Z]) ?_ 0 _ rfl; exact bf s.out⟩, ⟨iis y.out⟩, ⟨ks HK.out⟩, ⟨bs HB.out⟩⟩
   ·rw [if_neg ap] at H
    have bH : decide (0 < ae) = false := decide_eq_false ap
    clear ap
    replace H := Option.bind_eq_some_iff.mp H
    obtain ⟨⟨bo, br⟩, bt, H⟩ := H
    try dsimp -simprocs only at H
    have bO := am bt
    clear bt
    simp only [Option.some.injEq, Prod.mk.injEq] at H
    obtain ⟨rfl, rfl, rfl⟩ := H
    have cu := aw.out
    have cv := av.out
    have cy := aX.out
    have cz := aB.out
    obtain ⟨cA, cB⟩ := bc2 (w := wr) s.out
    have cC := blk_frozen s.out
    obtain ⟨bP, bQ, bR⟩ := Kd.R_slice D.out
    subst bR
    obtain ⟨bS, bT, bU⟩ := Kd.R_slice G.out
    subst bU
    go_wp2_with (first | ((with_reducible refine gc 97 rfl ?_); refine gl 22 Try.func97 #[.agg #[.slice bP J.length bQ, .slice bS I.length bT]] ?_; (with_reducible refine (spec_l2Copy.calls _ _ J _ _ I bo br _ ?ab ?ac ?ad ?au bO.out).mono ?_); (case ab => exact cr D); (case ac => exact cc D); (case ad => exact cr G); (case au => exact cc G); rintro e bV ⟨cD, cE, rfl, ak, al, hb⟩; refine ⟨_, rfl, ?_⟩; have bu := am (Kd.R_lower (Kd.R_new' ak (rk D)) (keep_size (w := w) (g := g) (row := none) (ks HK.out))); replace D := re D ak hb; have bv := am (Kd.R_lower (Kd.R_new' al (rk G)) (keep_size (w := w) (g := g) (row := none) (ks HK.out))); replace G := re G al hb; replace z := bb z hb rfl; replace s := bb s hb rfl; replace y := ib y hb; replace HK := kb HK hb; replace HB := hs HB hb; (try clear ak al hb); obtain ⟨bW, bX, bY⟩ := Kd.R_slice bu.out; subst bY; have cF := bz.out; have cG := aW.out; obtain ⟨cH, cI⟩ := bc2 (w := bV) z.out; have cJ := blk_frozen z.out; obtain ⟨bZ, b0, b1⟩ := Kd.R_slice bv.out; subst b1))
    refine bodyPost_ret (results_cell_row rfl _ _ aA 34 #[.slice bW bo.length bX, .slice bZ br.length b0] (0, 0) _ rfl (bp z.out rfl) Try.underlying34 rfl (by kernel_rfl)) rfl ?_
    exact ⟨_, _, eqr, Kd.R_mono (rt bu.out z.out (by decide)) (fun _ hk => trivial), Kd.R_mono (rt bv.out z.out (by decide)) (fun _ hk => trivial), iis y.out, bs HB.out, ks HK.out⟩

end Go.Proofs.Ytohmemckdogljaa.QFnGraphBent
