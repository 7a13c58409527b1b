/- Contracts of the Go functions that this law reaches: each does what its plain Lean function says. No condition. -/
import Derived.Test.YtohmemckdogljaaQFnExactGraphDox0
import Derived.Test.YtohmemckdogljaaQFnExactGraphDox3
import Derived.Test.YtohmemckdogljaaQFnExactGraphDox7
import Derived.Test.YtohmemckdogljaaQFnExactGraphDox8
import Derived.Test.YtohmemckdogljaaQFnExactGraphDox9
import Derived.Test.YtohmemckdogljaaQFnExactGraphDox10
import Derived.Test.YtohmemckdogljaaQFnExactGraphDox11
import Derived.Test.YtohmemckdogljaaQFnExactGraphDox12
namespace Go.Proofs.Ytohmemckdogljaa.QFnExactGraphDo
open Go.RowKit Go.Proofs.YtohmemckdogljaaW.PrintWords Go.Proofs.YtohmemckdogljaaW.PrintLast Go.Proofs.YtohmemckdogljaaW.PrintMore Go.Proofs.Ytohmemckdogljaa.Bl
attribute [local go_sem] max2_int min2_int max_two min_two max_three min_three max_four min_four   -- for this text's walks alone
set_option linter.unusedVariables false
set_option linter.unusedSimpArgs false
set_option maxHeartbeats 8000000
set_option maxRecDepth 100000

/-! ### spec_l2Do: function 96 -/
def spec_l2Do.f (k : Nat) (s : List (S36)) (y : List (S56)) (D : Int) (G : Int) (I : Int) (J : Int) (L : Int) (O : Int) (T : Int) (X : Int) : Option ((List (S36)) × (List (S56)) × Int) := (spec_OpLabel.f k D G I J L O T X).bind fun ae => (if ae < 0 then (some (s, y, 1)) else ((spec_l2Ends.f k s y D G I J L O T X).bind fun z => (if z = 0 then (if D = 1 then ((spec_l2Copy.f s y).bind fun Y => ((spec_l2PutNode.f k Y.1 Y.2 G I).bind fun Z => (some (Z.1, Z.2, z)))) else (if D = 2 then ((spec_l2Copy.f s y).bind fun aa => ((spec_l2PutEdge.f k aa.1 aa.2 J L O T X).bind fun ab => (some (ab.1, ab.2, z)))) else (if D = 3 then ((spec_l2Cut.f k s y J L O T X).bind fun ac => (some (ac.1, ac.2, z))) else ((spec_l2Off.f k s y G I).bind fun ad => (some (ad.1, ad.2, z)))))) else (some (s, y, z)))))
def spec_l2Do.T8 : Bool × List (List Nat × List Nat) := (true, [([], []), ([0], [0]), ([], []), ([2], [2]), ([1, 3, 1], [1, 3]), ([], []), ([4, 4, 0, 1, 2, 3, 4], [4]), ([5, 6, 0, 1, 2, 3, 4, 5, 6], [5])])
def spec_l2Do.B8 : List Nat := [0, 1, 0, 4, 15, 0, 31, 127]
theorem spec_l2Do.tab8 : rtab .any (opsOf Try.f96 8) = spec_l2Do.T8 := by kernel_rfl
theorem spec_l2Do.bits8 : waitsOk spec_l2Do.T8.2 spec_l2Do.B8 = true := by kernel_rfl
def spec_l2Do.T10 : Bool × List (List Nat × List Nat) := (true, [([], []), ([0], [0]), ([], []), ([2], [2]), ([1, 3, 1], [1, 3]), ([], []), ([4, 4, 0, 1, 2, 3, 4], [4]), ([5, 6, 0, 1, 2, 3, 4, 5, 6], [5])])
def spec_l2Do.B10 : List Nat := [0, 1, 0, 4, 15, 0, 31, 127]
theorem spec_l2Do.tab10 : rtab .any (opsOf Try.f96 10) = spec_l2Do.T10 := by kernel_rfl
theorem spec_l2Do.bits10 : waitsOk spec_l2Do.T10.2 spec_l2Do.B10 = true := by kernel_rfl
theorem spec_l2Do.calls (k : Nat) (L : Nat → Prop) (bm : Value) (af : List (S36)) (O : Nat → Prop) (bn : Value) (ag : List (S56)) (T : Int) (Y : Int) (Z : Int) (aa : Int) (ab : Int) (ac : Int) (ad : Int) (ae : Int) (r1 : List (S36)) (r2 : List (S56)) (r3 : Int) (w0 w : World) (hB : Below w0.heap.size w0 w) (cH : Kd.R k36 36 w w0.heap.size L bm af) (cI : Kd.R k56 56 w w0.heap.size O bn ag) (h : spec_l2Do.f k af ag T Y Z aa ab ac ad ae = some (r1, r2, r3)) :
  Calls Try.prog 96 #[.agg #[bm, bn], .agg #[.int .i64 T, .int .i64 Y, .int .i64 Z, .int .i64 aa, .int .i64 ab, .int .i64 ac, .int .i64 ad, .int .i64 ae]] w fun e w' => ∃ bJ bK : Value, e = .returned (.tuple #[.agg #[bJ, bK], .int .i64 r3]) ∧ Kd.R k36 36 w' w0.heap.size (fun k_ => ((L k_ ∨ O k_) ∨ w.heap.size ≤ k_)) bJ r1 ∧ Kd.R k56 56 w' w0.heap.size (fun k_ => ((L k_ ∨ O k_) ∨ w.heap.size ≤ k_)) bK r2 ∧ Below w0.heap.size w0 w' ∧ Kept w w' (fun k_ => L k_ ∨ O k_) := by
 have hu34 := Try.underlying34
 have hu58 := Try.underlying58
 have hu36 := Try.underlying36
 have hu56 := Try.underlying56
 have D := am (show Kd.R k36 36 w w0.heap.size (fun k_ => ((L k_ ∨ O k_) ∨ w.heap.size ≤ k_)) bm af from Kd.R_mono cH (fun k_ hk => (.inl (.inl hk))))
 have G := am (show Kd.R k56 56 w w0.heap.size (fun k_ => ((L k_ ∨ O k_) ∨ w.heap.size ≤ k_)) bn ag from Kd.R_mono cI (fun k_ hk => (.inl (.inr hk))))
 have HK := am (Kept.refl w (fun k_ => L k_ ∨ O k_))
 have dN := am hB.size
 have HB := am hB
 clear hB
 have H := h; unfold spec_l2Do.f at H
 clear h
 replace H := Option.bind_eq_some_iff.mp H
 obtain ⟨aH, bL, H⟩ := H
 try dsimp -simprocs only at H
 have A3 := am bL
 clear bL
 by_cases c4 : aH < 0
 ·rw [if_pos c4] at H
  have cJ : decide (aH < 0) = true := decide_eq_true c4
  clear c4
  simp only [Option.some.injEq, Prod.mk.injEq] at H
  obtain ⟨rfl, rfl, rfl⟩ := H
  obtain ⟨bM, bN, cK⟩ := Kd.R_slice D.out
  subst cK
  obtain ⟨bO, bP, cL⟩ := Kd.R_slice G.out
  subst cL
  go_enter Try.func96, Try.ntmps96
  go_wp2_with (first | ((with_reducible refine gd 2 rfl ?_); refine bx 2 (cs := #[.slice bM af.length bN, .slice bO ag.length bP]) (t := 34) ?_; intro au hg w7 hbox hb; replace D := rb D hb; replace G := rb G hb; have z := am hbox; have aM := Ge.mk ((by rw [hg]; exact (by first | exact HK.out.1 | exact (show Kept w _ (fun k_ => L k_ ∨ O k_) from ts HK.out).1) : w.heap.size ≤ au)); replace HK := kl HK hb; have aN := gwb HB hg; replace HB := hs HB hb; clear hb hbox hg) | ((with_reducible refine gd 3 rfl ?_); refine bx 3 (cs := #[.int .i64 T, .int .i64 Y, .int .i64 Z, .int .i64 aa, .int .i64 ab, .int .i64 ac, .int .i64 ad, .int .i64 ae]) (t := 58) ?_; intro ah hg w8 hbox hb; replace D := rb D hb; replace G := rb G hb; have y := am hbox; have aO := Ge.mk ((by rw [hg]; exact (by first | exact HK.out.1 | exact (show Kept w _ (fun k_ => L k_ ∨ O k_) from ts HK.out).1) : w.heap.size ≤ ah)); replace HK := kl HK hb; have aP := gwb HB hg; replace HB := hs HB hb; have aE := nq z hg; have aF := nq' z hg; replace z := bb z hb rfl; clear hb hbox hg) | ((with_reducible refine gd 4 rfl ?_); refine bx 4 (cs := #[.slice none 0 0, .slice none 0 0]) (t := 34) ?_; intro J hg w9 hbox hb; replace D := rb D hb; replace G := rb G hb; have I := am hbox; have aQ := Ge.mk ((by rw [hg]; exact (by first | exact HK.out.1 | exact (show Kept w _ (fun k_ => L k_ ∨ O k_) from ts HK.out).1) : w.heap.size ≤ J)); replace HK := kl HK hb; have aR := gwb HB hg; replace HB := hs HB hb; have ai := nq z hg; have av := nq' z hg; replace z := bb z hb rfl; have X := nq y hg; have aw := nq' y hg; replace y := bb y hb rfl; clear hb hbox hg; have dO := aF.out; have dP := aE.out; have dQ := X.out; have dR := aw.out; obtain ⟨dS, dT, dU, dV, dW, dX, dY, dZ⟩ := bc8 (w := w9) y.out; have d0 := blk_frozen y.out) | ((with_reducible refine gc 44 rfl ?_); refine gl 8 Try.func44 #[.agg #[.int .i64 T, .int .i64 Y, .int .i64 Z, .int .i64 aa, .int .i64 ab, .int .i64 ac, .int .i64 ad, .int .i64 ae]] ?_; (with_reducible refine (spec_OpLabel.calls k T Y Z aa ab ac ad ae aH _ A3.out).mono ?_); rintro e bQ ⟨rfl, hb⟩; refine ⟨_, rfl, ?_⟩; replace D := rb D hb; replace G := rb G hb; replace z := bb z hb rfl; replace y := bb y hb rfl; replace I := bb I hb rfl; replace HK := kl HK hb; replace HB := hs HB hb; (try clear hb); have d1 := ai.out; have d2 := av.out; obtain ⟨d3, d4⟩ := bc2 (w := bQ) z.out; have d5 := blk_frozen z.out; obtain ⟨d6, d7⟩ := bc2 (w := bQ) I.out; have d8 := blk_frozen I.out))
  refine bodyPost_ret (results_ct rfl _ _ J 34 #[.slice bM af.length bN, .slice bO ag.length bP] (0, 0) _ rfl (bp I.out rfl) Try.underlying34 rfl (by kernel_rfl)) rfl ?_
  exact ⟨_, _, eqr, Kd.R_mono (rt D.out I.out (by decide)) (fun _ hk => hk), Kd.R_mono (rt G.out I.out (by decide)) (fun _ hk => hk), bs HB.out, ts HK.out⟩
 ·rw [if_neg c4] at H
  have cJ : decide (aH < 0) = false := decide_eq_false c4
  clear c4
  replace H := Option.bind_eq_some_iff.mp H
  obtain ⟨aG, bR, H⟩ := H
  try dsimp -simprocs only at H
  have aS := am bR
  clear bR
  by_cases aI : aG = 0
  ·rw [if_pos aI] at H
   have cM : (aG == 0) = true := beq_iff_eq.mpr aI
   have cN : (aG != 0) = false := bne_eq_false_iff_eq.mpr aI
   clear aI
   by_cases aJ : T = 1
   ·rw [if_pos aJ] at H
    have cO : (T == 1) = true := beq_iff_eq.mpr aJ
    have cP : (T != 1) = false := bne_eq_false_iff_eq.mpr aJ
    clear aJ
    replace H := Option.bind_eq_some_iff.mp H
    obtain ⟨⟨aT, aU⟩, bS, H⟩ := H
    try dsimp -simprocs only at H
    have cQ := am bS
    clear bS
    replace H := Option.bind_eq_some_iff.mp H
    obtain ⟨⟨bT, bU⟩, bV, H⟩ := H
    try dsimp -simprocs only at H
    have cR := am bV
    clear bV
    simp only [Option.some.injEq, Prod.mk.injEq] at H
    obtain ⟨rfl, rfl, rfl⟩ := H
    obtain ⟨aV, aW, cS⟩ := Kd.R_slice D.out
    subst cS
    obtain ⟨aX, aY, cT⟩ := Kd.R_slice G.out
    subst cT
    go_enter Try.func96, Try.ntmps96
    try go_wp2_with (first | ((with_reducible refine gd 2 rfl ?_); refine bx 2 (cs := #[.slice aV af.length aW, .slice aX ag.length aY]) (t := 34) ?_; intro au hg d9 hbox hb; replace D := rb D hb; replace G := rb G hb; have z := am hbox; have aM := Ge.mk ((by rw [hg]; exact (by first | exact HK.out.1 | exact (show Kept w _ (fun k_ => L k_ ∨ O k_) from ts HK.out).1) : w.heap.size ≤ au)); replace HK := kl HK hb; have aN := gwb HB hg; replace HB := hs HB hb; clear hb hbox hg) | ((with_reducible refine gd 3 rfl ?_); refine bx 3 (cs := #[.int .i64 T, .int .i64 Y, .int .i64 Z, .int .i64 aa, .int .i64 ab, .int .i64 ac, .int .i64 ad, .int .i64 ae]) (t := 58) ?_; intro ah hg ea hbox hb; replace D := rb D hb; replace G := rb G hb; have y := am hbox; have aO := Ge.mk ((by rw [hg]; exact (by first | exact HK.out.1 | exact (show Kept w _ (fun k_ => L k_ ∨ O k_) from ts HK.out).1) : w.heap.size ≤ ah)); replace HK := kl HK hb; have aP := gwb HB hg; replace HB := hs HB hb; have aE := nq z hg; have aF := nq' z hg; replace z := bb z hb rfl; clear hb hbox hg) | ((with_reducible refine gd 4 rfl ?_); refine bx 4 (cs := #[.slice none 0 0, .slice none 0 0]) (t := 34) ?_; intro J hg cU hbox hb; replace D := rb D hb; replace G := rb G hb; have I := am hbox; have aQ := Ge.mk ((by rw [hg]; exact (by first | exact HK.out.1 | exact (show Kept w _ (fun k_ => L k_ ∨ O k_) from ts HK.out).1) : w.heap.size ≤ J)); replace HK := kl HK hb; have aR := gwb HB hg; replace HB := hs HB hb; have ai := nq z hg; have av := nq' z hg; replace z := bb z hb rfl; have X := nq y hg; have aw := nq' y hg; replace y := bb y hb rfl; clear hb hbox hg; have eb := aF.out; have ec := aE.out; have ed := X.out; have ee := aw.out; obtain ⟨ef, eg, eh, ei, ej, ek, el, em⟩ := bc8 (w := cU) y.out; have en := blk_frozen y.out) | ((with_reducible refine gc 44 rfl ?_); refine gl 8 Try.func44 #[.agg #[.int .i64 T, .int .i64 Y, .int .i64 Z, .int .i64 aa, .int .i64 ab, .int .i64 ac, .int .i64 ad, .int .i64 ae]] ?_; (with_reducible refine (spec_OpLabel.calls k T Y Z aa ab ac ad ae aH _ A3.out).mono ?_); rintro e bW ⟨rfl, hb⟩; refine ⟨_, rfl, ?_⟩; replace D := rb D hb; replace G := rb G hb; replace z := bb z hb rfl; replace y := bb y hb rfl; replace I := bb I hb rfl; replace HK := kl HK hb; replace HB := hs HB hb; (try clear hb); have eo := ai.out; have ep := av.out; obtain ⟨eq, er⟩ := bc2 (w := bW) z.out; have es := blk_frozen z.out; obtain ⟨et, eu, ev, ew, ex, ey, ez, eA⟩ := bc8 (w := bW) y.out; have eB := blk_frozen y.out) | ((with_reducible refine gc 123 rfl ?_); refine gl 13 Try.func123 #[.agg #[.slice aV af.length aW, .slice aX ag.length aY], .agg #[.int .i64 T, .int .i64 Y, .int .i64 Z, .int .i64 aa, .int .i64 ab, .int .i64 ac, .int .i64 ad, .int .i64 ae]] ?_; (with_reducible refine (spec_l2Ends.calls k _ _ af _ _ ag T Y Z aa ab ac ad ae aG _ ?ao ?ap ?aq ?ar aS.out).mono ?_); (case ao => exact cr D); (case ap => exact cc D); (case aq => exact cr G); (case ar => exact cc G); rintro e bX ⟨rfl, hb⟩; refine ⟨_, rfl, ?_⟩; replace D := rb D hb; replace G := rb G hb; replace z := bb z hb rfl; replace y := bb y hb rfl; replace I := bb I hb rfl; replace HK := kl HK hb; replace HB := hs HB hb; (try clear hb); obtain ⟨eC, eD, eE, eF, eG, eH, eI, eJ⟩ := bc8 (w := bX) y.out; have eK := blk_frozen y.out))
    replace D := rd_ D
    replace G := rd_ G
    replace z := bd z
    replace y := bd y
    replace I := bd I
    replace HK := am (Kept.drew HK.out)
    replace HB := hd HB
    refine sta 8 (fun w' => w'.cell? ⟨au, 0, none⟩ = some (.slice aV af.length aW) ∧ w'.cell? ⟨au, 1, none⟩ = some (.slice aX ag.length aY) ∧ w'.cell? ⟨ah, 0, none⟩ = some (.int .i64 T) ∧ w'.cell? ⟨ah, 1, none⟩ = some (.int .i64 Y) ∧ w'.cell? ⟨ah, 2, none⟩ = some (.int .i64 Z) ∧ w'.cell? ⟨ah, 3, none⟩ = some (.int .i64 aa) ∧ w'.cell? ⟨ah, 4, none⟩ = some (.int .i64 ab) ∧ w'.cell? ⟨ah, 5, none⟩ = some (.int .i64 ac) ∧ w'.cell? ⟨ah, 6, none⟩ = some (.int .i64 ad) ∧ w'.cell? ⟨ah, 7, none⟩ = some (.int .i64 ae)) [] ⟨cx z 0, cx z 1, cx y 0, cx y 1, cx y 2, cx y 3, cx y 4, cx y 5, cx y 6, cx y 7⟩ (fun hHeld => ?_); refine with_tabW spec_l2Do.tab8 spec_l2Do.bits8 (fun HT_ HW_ => ?_)
    generalize bX.drew = eL at D G z y I HK HB hHeld ⊢
    refine pu 2 24 ?_
    refine pu 5 27 ?_
    refine tk 0 22 ?_
    refine tk 3 25 ?_
    refine on 1 23 (fun K hK => ?_)
    refine gs Try.func97 #[.agg #[.slice aV af.length aW, .slice aX ag.length aY]] ?_
    with_reducible refine (spec_l2Copy.calls _ _ af _ _ ag aT aU _ ?ao ?ap ?aq ?ar cQ.out).mono ?_
    (case ao => exact cr D)
    (case ap => exact cc D)
    (case aq => exact cr G)
    (case ar => exact cc G)
    rintro e eM ⟨eN, eO, rfl, an, aj, hb⟩
    refine ⟨_, rfl, ?_⟩
    have aA := am (Kd.R_lower (Kd.R_new' (Kd.R_newM (M := fun k_ => ((L k_ ∨ O k_) ∨ w.heap.size ≤ k_)) an (by first | exact HK.out.1 | exact (show Kept w _ (fun k_ => L k_ ∨ O k_) from ts HK.out).1) (fun k_ h_ => .inr h_)) (rk D)) (below_size (bs HB.out)))
    replace D := re D an hb
    have aB := am (Kd.R_lower (Kd.R_new' (Kd.R_newM (M := fun k_ => ((L k_ ∨ O k_) ∨ w.heap.size ≤ k_)) aj (by first | exact HK.out.1 | exact (show Kept w _ (fun k_ => L k_ ∨ O k_) from ts HK.out).1) (fun k_ h_ => .inr h_)) (rk G)) (below_size (bs HB.out)))
    replace G := re G aj hb
    replace z := bb z hb rfl
    replace y := bb y hb rfl
    replace I := bb I hb rfl
    replace HK := kl HK hb
    replace HB := hs HB hb
    (try clear hb)
    (try clear hb2)
    (try clear hk)
    (try clear hi)
    (try clear an)
    (try clear aj)
    obtain ⟨bo, br, bY⟩ := Kd.R_slice aA.out
    (first | subst bY | (injection bY with ak ax al; have ay := ak.symm; have az := al.symm; clear ak ax al; subst ay; subst az))
    obtain ⟨bt, bu, bZ⟩ := Kd.R_slice aB.out
    (first | subst bZ | (injection bZ with ak ax al; have ay := ak.symm; have az := al.symm; clear ak ax al; subst ay; subst az))
    refine hK.out _ _ ⟨cx z 0, cx z 1, cx y 0, cx y 1, cx y 2, cx y 3, cx y 4, cx y 5, cx y 6, cx y 7⟩ (fun hHeld => ?_)
    clear hK K
    refine nrm 23 ?_
    refine on 4 26 (fun K hK => ?_)
    refine gs Try.func109 #[.agg #[.slice bo aT.length br, .slice bt aU.length bu], .agg #[.int .i64 Y, .int .i64 Z]] ?_
    with_reducible refine (spec_l2PutNode.calls k (fun k_ => some k_ = (.slice bo aT.length br : Value).ownBlock) (.slice bo aT.length br) aT (fun k_ => some k_ = (.slice bt aU.length bu : Value).ownBlock) (.slice bt aU.length bu) aU Y Z bT bU w0 _ ?ao ?ap ?aq cR.out).mono ?_
    (case ao => exact bs HB.out)
    (case ap => exact Kd.R_tight rfl aA.out)
    (case aq => exact Kd.R_tight rfl aB.out)
    rintro e b0 ⟨cV, cW, rfl, an, aj, hb, hkp⟩
    refine ⟨_, rfl, ?_⟩
    replace z := am (blk_kept (bf z.out) hkp (fun hs_ => Or.elim hs_ (fun e_ => (fun e_ => (Kd.R_ne aA.out z.out (by decide)) e_) e_) (fun e_ => (fun e_ => (Kd.R_ne aB.out z.out (by decide)) e_) e_)))
    replace y := am (blk_kept (bf y.out) hkp (fun hs_ => Or.elim hs_ (fun e_ => (fun e_ => (Kd.R_ne aA.out y.out (by decide)) e_) e_) (fun e_ => (fun e_ => (Kd.R_ne aB.out y.out (by decide)) e_) e_)))
    replace I := am (blk_kept (bf I.out) hkp (fun hs_ => Or.elim hs_ (fun e_ => (fun e_ => (Kd.R_ne aA.out I.out (by decide)) e_) e_) (fun e_ => (fun e_ => (Kd.R_ne aB.out I.out (by decide)) e_) e_)))
    have b1 := am (Kd.R_mono (ok' := fun k_ => ((L k_ ∨ O k_) ∨ w.heap.size ≤ k_) ∧ some k_ ≠ (.slice aV af.length aW : Value).ownBlock) an (fun k_ hk_ => ⟨Or.elim hk_ (fun hs_ => Or.elim hs_ (fun hs_ => (aA.out.1 k_ (hs_).symm).1.1) (fun hs_ => (aB.out.1 k_ (hs_).symm).1.1)) (fun hn_ => (.inr (Nat.le_trans (by first | exact HK.out.1 | exact (show Kept w _ (fun k_ => L k_ ∨ O k_) from ts HK.out).1) hn_))), Or.elim hk_ (fun hs_ => Or.elim hs_ (fun hs_ => fun e_ => ((((Kd.R_apart' D.out (Kd.R_typed aB.out) (by decide))).1 k_ e_.symm).1.2) hs_) (fun hs_ => fun e_ => ((((Kd.R_apart' D.out (Kd.R_typed aB.out) (by decide))).1 k_ e_.symm).2) hs_)) (fun hn_ => (Kd.fresh' (rk D) k_ hn_))⟩))
    replace D := am (Kd.R_mono (ok' := fun k_ => ((L k_ ∨ O k_) ∨ w.heap.size ≤ k_) ∧ some k_ ≠ (cV : Value).ownBlock) (Kd.R_keptB ((Kd.R_apart' D.out (Kd.R_typed aB.out) (by decide))) hkp (fun k_ hk_ hs_ => Or.elim hs_ (fun e_ => (hk_.1.2) e_) (fun e_ => (hk_.2) e_))) (fun k_ hk_ => ⟨hk_.1.1.1, fun e_ => Or.elim (an.1 k_ e_.symm) (fun hs_ => hk_.2.1 hs_) (fun hn_ => Nat.not_le.2 hk_.2.2 hn_)⟩))
    have b2 := am (Kd.R_mono (ok' := fun k_ => ((L k_ ∨ O k_) ∨ w.heap.size ≤ k_) ∧ some k_ ≠ (.slice aX ag.length aY : Value).ownBlock) aj (fun k_ hk_ => ⟨Or.elim hk_ (fun hs_ => Or.elim hs_ (fun hs_ => (aA.out.1 k_ (hs_).symm).1.1) (fun hs_ => (aB.out.1 k_ (hs_).symm).1.1)) (fun hn_ => (.inr (Nat.le_trans (by first | exact HK.out.1 | exact (show Kept w _ (fun k_ => L k_ ∨ O k_) from ts HK.out).1) hn_))), Or.elim hk_ (fun hs_ => Or.elim hs_ (fun hs_ => fun e_ => ((((Kd.R_apart' G.out (Kd.R_typed aA.out) (by decide))).1 k_ e_.symm).2) hs_) (fun hs_ => fun e_ => ((((Kd.R_apart' G.out (Kd.R_typed aA.out) (by decide))).1 k_ e_.symm).1.2) hs_)) (fun hn_ => (Kd.fresh' (rk G) k_ hn_))⟩))
    replace G := am (Kd.R_mono (ok' := fun k_ => ((L k_ ∨ O k_) ∨ w.heap.size ≤ k_) ∧ some k_ ≠ (cW : Value).ownBlock) (Kd.R_keptB ((Kd.R_apart' G.out (Kd.R_typed aA.out) (by decide))) hkp (fun k_ hk_ hs_ => Or.elim hs_ (fun e_ => (hk_.2) e_) (fun e_ => (hk_.1.2) e_))) (fun k_ hk_ => ⟨hk_.1.1.1, fun e_ => Or.elim (aj.1 k_ e_.symm) (fun hs_ => hk_.2.1 hs_) (fun hn_ => Nat.not_le.2 hk_.2.2 hn_)⟩))
    replace HK := am (Kept.then_ (S := (fun k_ => L k_ ∨ O k_)) (ts HK.out) hkp (fun k_ hs_ => Or.elim hs_ (fun e_ => (fun e_ => (aA.out.1 k_ e_.symm).1.1) e_) (fun e_ => (fun e_ => (aB.out.1 k_ e_.symm).1.1) e_)))
    replace HB := am hb
    clear aA aB
    (try clear hb)
    (try clear hkp)
    (try clear an)
    (try clear aj)
    obtain ⟨cX, cY, b3⟩ := Kd.R_slice b1.out
    (first | subst b3 | (injection b3 with ak ax al; have ay := ak.symm; have az := al.symm; clear ak ax al; subst ay; subst az))
    obtain ⟨cZ, c0, b4⟩ := Kd.R_slice b2.out
    (first | subst b4 | (injection b4 with ak ax al; have ay := ak.symm; have az := al.symm; clear ak ax al; subst ay; subst az))
    refine hK.out _ _ ⟨cx z 0, cx z 1, cx y 0, cx y 1, cx y 2, cx y 3, cx y 4, cx y 5, cx y 6, cx y 7⟩ (fun hHeld => ?_)
    clear hK K
    refine nrm 26 ?_
    refine on0 6 (fun K hK => ?_)
    have eP : b0.cell? ⟨J, 0, none⟩ = some (.slice none 0 0) := cx I 0
    have eQ := blk_frozen I.out 0
    have eR := ai.out
    have eS := X.out
    have eT := av.out
    have eU := aw.out
    have eV : b0.cell? ⟨J, 1, none⟩ = some (.slice none 0 0) := cx I 1
    have eW := blk_frozen I.out 1
    have eX := ai.out
    have eY := X.out
    have eZ := av.out
    have e0 := aw.out
    refine sk ?_
    refine hK.out _ _ ⟨((cell_far (p := ⟨J, _, none⟩) ai.out _).trans (((cell_far (p := ⟨J, _, none⟩) ai.out _).trans (hHeld.1)))), ((cell_far (p := ⟨J, _, none⟩) ai.out _).trans (((cell_far (p := ⟨J, _, none⟩) ai.out _).trans (hHeld.2.1)))), ((cell_far (p := ⟨J, _, none⟩) X.out _).trans (((cell_far (p := ⟨J, _, none⟩) X.out _).trans (hHeld.2.2.1)))), ((cell_far (p := ⟨J, _, none⟩) X.out _).trans (((cell_far (p := ⟨J, _, none⟩) X.out _).trans (hHeld.2.2.2.1)))), ((cell_far (p := ⟨J, _, none⟩) X.out _).trans (((cell_far (p := ⟨J, _, none⟩) X.out _).trans (hHeld.2.2.2.2.1)))), ((cell_far (p := ⟨J, _, none⟩) X.out _).trans (((cell_far (p := ⟨J, _, none⟩) X.out _).trans (hHeld.2.2.2.2.2.1)))), ((cell_far (p := ⟨J, _, none⟩) X.out _).trans (((cell_far (p := ⟨J, _, none⟩) X.out _).trans (hHeld.2.2.2.2.2.2.1)))), ((cell_far (p := ⟨J, _, none⟩) X.out _).trans (((cell_far (p := ⟨J, _, none⟩) X.out _).trans (hHeld.2.2.2.2.2.2.2.1)))), ((cell_far (p := ⟨J, _, none⟩) X.out _).trans (((cell_far (p := ⟨J, _, none⟩) X.out _).trans (hHeld.2.2.2.2.2.2.2.2.1)))), ((cell_far (p := ⟨J, _, none⟩) X.out _).trans (((cell_far (p := ⟨J, _, none⟩) X.out _).trans (hHeld.2.2.2.2.2.2.2.2.2))))⟩ (fun hHeld => ?_)
    clear hK K
    refine pu 7 5 ?_
    refine dn ?_
    try go_wp2
    refine bodyPost_ret (results_ct rfl _ _ J 34 #[.slice cX bT.length cY, .slice cZ bU.length c0] (0, 0) _ rfl (bp I.out rfl) Try.underlying34 rfl (by kernel_rfl)) rfl ?_
    exact ⟨_, _, eqr, Kd.R_mono (rt b1.out I.out (by decide)) (fun _ hk => hk.1), Kd.R_mono (rt b2.out I.out (by decide)) (fun _ hk => hk.1), bs HB.out, ts HK.out⟩
   ·rw [if_neg aJ] at H
    have cO : (T == 1) = false := beq_eq_false_iff_ne.mpr aJ
    have cP : (T != 1) = true := bne_iff_ne.mpr aJ
    by_cases aK : T = 2
    ·rw [if_pos aK] at H
     have c1 : (T == 2) = true := beq_iff_eq.mpr aK
     have c5 : (T != 2) = false := bne_eq_false_iff_eq.mpr aK
     clear aK
     replace H := Option.bind_eq_some_iff.mp H
     obtain ⟨⟨aZ, ba⟩, b5, H⟩ := H
     try dsimp -simprocs only at H
     have c7 := am b5
     clear b5
     replace H := Option.bind_eq_some_iff.mp H
     obtain ⟨⟨b6, b7⟩, b8, H⟩ := H
     try dsimp -simprocs only at H
     have c8 := am b8
     clear b8
     simp only [Option.some.injEq, Prod.mk.injEq] at H
     obtain ⟨rfl, rfl, rfl⟩ := H
     obtain ⟨bc, be, c9⟩ := Kd.R_slice D.out
     subst c9
     obtain ⟨bg, bh, da⟩ := Kd.R_slice G.out
     subst da
     go_enter Try.func96, Try.ntmps96
     try go_wp2_with (first | ((with_reducible refine gd 2 rfl ?_); refine bx 2 (cs := #[.slice bc af.length be, .slice bg ag.length bh]) (t := 34) ?_; intro au hg e1 hbox hb; replace D := rb D hb; replace G := rb G hb; have z := am hbox; have aM := Ge.mk ((by rw [hg]; exact (by first | exact HK.out.1 | exact (show Kept w _ (fun k_ => L k_ ∨ O k_) from ts HK.out).1) : w.heap.size ≤ au)); replace HK := kl HK hb; have aN := gwb HB hg; replace HB := hs HB hb; clear hb hbox hg) | ((with_reducible refine gd 3 rfl ?_); refine bx 3 (cs := #[.int .i64 T, .int .i64 Y, .int .i64 Z, .int .i64 aa, .int .i64 ab, .int .i64 ac, .int .i64 ad, .int .i64 ae]) (t := 58) ?_; intro ah hg e2 hbox hb; replace D := rb D hb; replace G := rb G hb; have y := am hbox; have aO := Ge.mk ((by rw [hg]; exact (by first | exact HK.out.1 | exact (show Kept w _ (fun k_ => L k_ ∨ O k_) from ts HK.out).1) : w.heap.size ≤ ah)); replace HK := kl HK hb; have aP := gwb HB hg; replace HB := hs HB hb; have aE := nq z hg; have aF := nq' z hg; replace z := bb z hb rfl; clear hb hbox hg) | ((with_reducible refine gd 4 rfl ?_); refine bx 4 (cs := #[.slice none 0 0, .slice none 0 0]) (t := 34) ?_; intro J hg db hbox hb; replace D := rb D hb; replace G := rb G hb; have I := am hbox; have aQ := Ge.mk ((by rw [hg]; exact (by first | exact HK.out.1 | exact (show Kept w _ (fun k_ => L k_ ∨ O k_) from ts HK.out).1) : w.heap.size ≤ J)); replace HK := kl HK hb; have aR := gwb HB hg; replace HB := hs HB hb; have ai := nq z hg; have av := nq' z hg; replace z := bb z hb rfl; have X := nq y hg; have aw := nq' y hg; replace y := bb y hb rfl; clear hb hbox hg; have e3 := aF.out; have e4 := aE.out; have e5 := X.out; have e6 := aw.out; obtain ⟨e7, e8, e9, fa, fb, fc, fd, fe⟩ := bc8 (w := db) y.out; have ff := blk_frozen y.out) | ((with_reducible refine gc 44 rfl ?_); refine gl 8 Try.func44 #[.agg #[.int .i64 T, .int .i64 Y, .int .i64 Z, .int .i64 aa, .int .i64 ab, .int .i64 ac, .int .i64 ad, .int .i64 ae]] ?_; (with_reducible refine (spec_OpLabel.calls k T Y Z aa ab ac ad ae aH _ A3.out).mono ?_); rintro e b9 ⟨rfl, hb⟩; refine ⟨_, rfl, ?_⟩; replace D := rb D hb; replace G := rb G hb; replace z := bb z hb rfl; replace y := bb y hb rfl; replace I := bb I hb rfl; replace HK := kl HK hb; replace HB := hs HB hb; (try clear hb); have fg := ai.out; have fh := av.out; obtain ⟨fi, fj⟩ := bc2 (w := b9) z.out; have fk := blk_frozen z.out; obtain ⟨fl, fm, fo, fp, fq, fr, fs, ft⟩ := bc8 (w := b9) y.out; have fu := blk_frozen y.out) | ((with_reducible refine gc 123 rfl ?_); refine gl 13 Try.func123 #[.agg #[.slice bc af.length be, .slice bg ag.length bh], .agg #[.int .i64 T, .int .i64 Y, .int .i64 Z, .int .i64 aa, .int .i64 ab, .int .i64 ac, .int .i64 ad, .int .i64 ae]] ?_; (with_reducible refine (spec_l2Ends.calls k _ _ af _ _ ag T Y Z aa ab ac ad ae aG _ ?ao ?ap ?aq ?ar aS.out).mono ?_); (case ao => exact cr D); (case ap => exact cc D); (case aq => exact cr G); (case ar => exact cc G); rintro e ce ⟨rfl, hb⟩; refine ⟨_, rfl, ?_⟩; replace D := rb D hb; replace G := rb G hb; replace z := bb z hb rfl; replace y := bb y hb rfl; replace I := bb I hb rfl; replace HK := kl HK hb; replace HB := hs HB hb; (try clear hb); obtain ⟨fv, fw, fx, fy, fz, fA, fB, fC⟩ := bc8 (w := ce) y.out; have fD := blk_frozen y.out))
     replace D := rd_ D
     replace G := rd_ G
     replace z := bd z
     replace y := bd y
     replace I := bd I
     replace HK := am (Kept.drew HK.out)
     replace HB := hd HB
     refine sta 8 (fun w' => w'.cell? ⟨au, 0, none⟩ = some (.slice bc af.length be) ∧ w'.cell? ⟨au, 1, none⟩ = some (.slice bg ag.length bh) ∧ w'.cell? ⟨ah, 0, none⟩ = some (.int .i64 T) ∧ w'.cell? ⟨ah, 1, none⟩ = some (.int .i64 Y) ∧ w'.cell? ⟨ah, 2, none⟩ = some (.int .i64 Z) ∧ w'.cell? ⟨ah, 3, none⟩ = some (.int .i64 aa) ∧ w'.cell? ⟨ah, 4, none⟩ = some (.int .i64 ab) ∧ w'.cell? ⟨ah, 5, none⟩ = some (.int .i64 ac) ∧ w'.cell? ⟨ah, 6, none⟩ = some (.int .i64 ad) ∧ w'.cell? ⟨ah, 7, none⟩ = some (.int .i64 ae)) [] ⟨cx z 0, cx z 1, cx y 0, cx y 1, cx y 2, cx y 3, cx y 4, cx y 5, cx y 6, cx y 7⟩ (fun hHeld => ?_); refine with_tabW spec_l2Do.tab10 spec_l2Do.bits10 (fun HT_ HW_ => ?_)
     generalize ce.drew = fE at D G z y I HK HB hHeld ⊢
     refine pu 2 32 ?_
     refine pu 5 35 ?_
     refine tk 0 30 ?_
     refine tk 3 33 ?_
     refine on 1 31 (fun K hK => ?_)
     refine gs Try.func97 #[.agg #[.slice bc af.length be, .slice bg ag.length bh]] ?_
     with_reducible refine (spec_l2Copy.calls _ _ af _ _ ag aZ ba _ ?ao ?ap ?aq ?ar c7.out).mono ?_
     (case ao => exact cr D)
     (case ap => exact cc D)
     (case aq => exact cr G)
     (case ar => exact cc G)
     rintro e fF ⟨fG, fH, rfl, an, aj, hb⟩
     refine ⟨_, rfl, ?_⟩
     have aC := am (Kd.R_lower (Kd.R_new' (Kd.R_newM (M := fun k_ => ((L k_ ∨ O k_) ∨ w.heap.size ≤ k_)) an (by first | exact HK.out.1 | exact (show Kept w _ (fun k_ => L k_ ∨ O k_) from ts HK.out).1) (fun k_ h_ => .inr h_)) (rk D)) (below_size (bs HB.out)))
     replace D := re D an hb
     have aD := am (Kd.R_lower (Kd.R_new' (Kd.R_newM (M := fun k_ => ((L k_ ∨ O k_) ∨ w.heap.size ≤ k_)) aj (by first | exact HK.out.1 | exact (show Kept w _ (fun k_ => L k_ ∨ O k_) from ts HK.out).1) (fun k_ h_ => .inr h_)) (rk G)) (below_size (bs HB.out)))
     replace G := re G aj hb
     replace z := bb z hb rfl
     replace y := bb y hb rfl
     replace I := bb I hb rfl
     replace HK := kl HK hb
     replace HB := hs HB hb
     (try clear hb)
     (try clear hb2)
     (try clear hk)
     (try clear hi)
     (try clear an)
     (try clear aj)
     obtain ⟨bv, bw, cf⟩ := Kd.R_slice aC.out
     (first | subst cf | (injection cf with ak ax al; have ay := ak.symm; have az := al.symm; clear ak ax al; subst ay; subst az))
     obtain ⟨bz, bA, cg⟩ := Kd.R_slice aD.out
     (first | subst cg | (injection cg with ak ax al; have ay := ak.symm; have az := al.symm; clear ak ax al; subst ay; subst az))
     refine hK.out _ _ ⟨cx z 0, cx z 1, cx y 0, cx y 1, cx y 2, cx y 3, cx y 4, cx y 5, cx y 6, cx y 7⟩ (fun hHeld => ?_)
     clear hK K
     refine nrm 31 ?_
     refine on 4 34 (fun K hK => ?_)
     refine gs Try.func124 #[.agg #[.slice bv aZ.length bw, .slice bz ba.length bA], .agg #[.int .i64 aa, .int .i64 ab, .int .i64 ac, .int .i64 ad, .int .i64 ae]] ?_
     with_reducible refine (spec_l2PutEdge.calls k (fun k_ => some k_ = (.slice bv aZ.length bw : Value).ownBlock) (.slice bv aZ.length bw) aZ (fun k_ => some k_ = (.slice bz ba.length bA : Value).ownBlock) (.slice bz ba.length bA) ba aa ab ac ad ae b6 b7 w0 _ ?ao ?ap ?aq c8.out).mono ?_
     (case ao => exact bs HB.out)
     (case ap => exact Kd.R_tight rfl aC.out)
     (case aq => exact Kd.R_tight rfl aD.out)
     rintro e ch ⟨dc, dd, rfl, an, aj, hb, hkp⟩
     refine ⟨_, rfl, ?_⟩
     replace z := am (blk_kept (bf z.out) hkp (fun hs_ => Or.elim hs_ (fun e_ => (fun e_ => (Kd.R_ne aC.out z.out (by decide)) e_) e_) (fun e_ => (fun e_ => (Kd.R_ne aD.out z.out (by decide)) e_) e_)))
     replace y := am (blk_kept (bf y.out) hkp (fun hs_ => Or.elim hs_ (fun e_ => (fun e_ => (Kd.R_ne aC.out y.out (by decide)) e_) e_) (fun e_ => (fun e_ => (Kd.R_ne aD.out y.out (by decide)) e_) e_)))
     replace I := am (blk_kept (bf I.out) hkp (fun hs_ => Or.elim hs_ (fun e_ => (fun e_ => (Kd.R_ne aC.out I.out (by decide)) e_) e_) (fun e_ => (fun e_ => (Kd.R_ne aD.out I.out (by decide)) e_) e_)))
     have ci := am (Kd.R_mono (ok' := fun k_ => ((L k_ ∨ O k_) ∨ w.heap.size ≤ k_) ∧ some k_ ≠ (.slice bc af.length be : Value).ownBlock) an (fun k_ hk_ => ⟨Or.elim hk_ (fun hs_ => Or.elim hs_ (fun hs_ => (aC.out.1 k_ (hs_).symm).1.1) (fun hs_ => (aD.out.1 k_ (hs_).symm).1.1)) (fun hn_ => (.inr (Nat.le_trans (by first | exact HK.out.1 | exact (show Kept w _ (fun k_ => L k_ ∨ O k_) from ts HK.out).1) hn_))), Or.elim hk_ (fun hs_ => Or.elim hs_ (fun hs_ => fun e_ => ((((Kd.R_apart' D.out (Kd.R_typed aD.out) (by decide))).1 k_ e_.symm).1.2) hs_) (fun hs_ => fun e_ => ((((Kd.R_apart' D.out (Kd.R_typed aD.out) (by decide))).1 k_ e_.symm).2) hs_)) (fun hn_ => (Kd.fresh' (rk D) k_ hn_))⟩))
     replace D := am (Kd.R_mono (ok' := fun k_ => ((L k_ ∨ O k_) ∨ w.heap.size ≤ k_) ∧ some k_ ≠ (dc : Value).ownBlock) (Kd.R_keptB ((Kd.R_apart' D.out (Kd.R_typed aD.out) (by decide))) hkp (fun k_ hk_ hs_ => Or.elim hs_ (fun e_ => (hk_.1.2) e_) (fun e_ => (hk_.2) e_))) (fun k_ hk_ => ⟨hk_.1.1.1, fun e_ => Or.elim (an.1 k_ e_.symm) (fun hs_ => hk_.2.1 hs_) (fun hn_ => Nat.not_le.2 hk_.2.2 hn_)⟩))
     have cj := am (Kd.R_mono (ok' := fun k_ => ((L k_ ∨ O k_) ∨ w.heap.size ≤ k_) ∧ some k_ ≠ (.slice bg ag.length bh : Value).ownBlock) aj (fun k_ hk_ => ⟨Or.elim hk_ (fun hs_ => Or.elim hs_ (fun hs_ => (aC.out.1 k_ (hs_).symm).1.1) (fun hs_ => (aD.out.1 k_ (hs_).symm).1.1)) (fun hn_ => (.inr (Nat.le_trans (by first | exact HK.out.1 | exact (show Kept w _ (fun k_ => L k_ ∨ O k_) from ts HK.out).1) hn_))), Or.elim hk_ (fun hs_ => Or.elim hs_ (fun hs_ => fun e_ => ((((Kd.R_apart' G.out (Kd.R_typed aC.out) (by decide))).1 k_ e_.symm).2) hs_) (fun hs_ => fun e_ => ((((Kd.R_apart' G.out (Kd.R_typed aC.out) (by decide))).1 k_ e_.symm).1.2) hs_)) (fun hn_ => (Kd.fresh' (rk G) k_ hn_))⟩))
     replace G := am (Kd.R_mono (ok' := fun k_ => ((L k_ ∨ O k_) ∨ w.heap.size ≤ k_) ∧ some k_ ≠ (dd : Value).ownBlock) (Kd.R_keptB ((Kd.R_apart' G.out (Kd.R_typed aC.out) (by decide))) hkp (fun k_ hk_ hs_ => Or.elim hs_ (fun e_ => (hk_.2) e_) (fun e_ => (hk_.1.2) e_))) (fun k_ hk_ => ⟨hk_.1.1.1, fun e_ => Or.elim (aj.1 k_ e_.symm) (fun hs_ => hk_.2.1 hs_) (fun hn_ => Nat.not_le.2 hk_.2.2 hn_)⟩))
     replace HK := am (Kept.then_ (S := (fun k_ => L k_ ∨ O k_)) (ts HK.out) hkp (fun k_ hs_ => Or.elim hs_ (fun e_ => (fun e_ => (aC.out.1 k_ e_.symm).1.1) e_) (fun e_ => (fun e_ => (aD.out.1 k_ e_.symm).1.1) e_)))
     replace HB := am hb
     clear aC aD
     (try clear hb)
     (try clear hkp)
     (try clear an)
     (try clear aj)
     obtain ⟨de, df, ck⟩ := Kd.R_slice ci.out
     (first | subst ck | (injection ck with ak ax al; have ay := ak.symm; have az := al.symm; clear ak ax al; subst ay; subst az))
     obtain ⟨dg, dh, cl⟩ := Kd.R_slice cj.out
     (first | subst cl | (injection cl with ak ax al; have ay := ak.symm; have az := al.symm; clear ak ax al; subst ay; subst az))
     refine hK.out _ _ ⟨cx z 0, cx z 1, cx y 0, cx y 1, cx y 2, cx y 3, cx y 4, cx y 5, cx y 6, cx y 7⟩ (fun hHeld => ?_)
     clear hK K
     refine nrm 34 ?_
     refine on0 6 (fun K hK => ?_)
     have fI : ch.cell? ⟨J, 0, none⟩ = some (.slice none 0 0) := cx I 0
     have fJ := blk_frozen I.out 0
     have fK := ai.out
     have fL := X.out
     have fM := av.out
     have fN := aw.out
     have fO : ch.cell? ⟨J, 1, none⟩ = some (.slice none 0 0) := cx I 1
     have fP := blk_frozen I.out 1
     have fQ := ai.out
     have fR := X.out
     have fS := av.out
     have fT := aw.out
     refine sk ?_
     refine hK.out _ _ ⟨((cell_far (p := ⟨J, _, none⟩) ai.out _).trans (((cell_far (p := ⟨J, _, none⟩) ai.out _).trans (hHeld.1)))), ((cell_far (p := ⟨J, _, none⟩) ai.out _).trans (((cell_far (p := ⟨J, _, none⟩) ai.out _).trans (hHeld.2.1)))), ((cell_far (p := ⟨J, _, none⟩) X.out _).trans (((cell_far (p := ⟨J, _, none⟩) X.out _).trans (hHeld.2.2.1)))), ((cell_far (p := ⟨J, _, none⟩) X.out _).trans (((cell_far (p := ⟨J, _, none⟩) X.out _).trans (hHeld.2.2.2.1)))), ((cell_far (p := ⟨J, _, none⟩) X.out _).trans (((cell_far (p := ⟨J, _, none⟩) X.out _).trans (hHeld.2.2.2.2.1)))), ((cell_far (p := ⟨J, _, none⟩) X.out _).trans (((cell_far (p := ⟨J, _, none⟩) X.out _).trans (hHeld.2.2.2.2.2.1)))), ((cell_far (p := ⟨J, _, none⟩) X.out _).trans (((cell_far (p := ⟨J, _, none⟩) X.out _).trans (hHeld.2.2.2.2.2.2.1)))), ((cell_far (p := ⟨J, _, none⟩) X.out _).trans (((cell_far (p := ⟨J, _, none⟩) X.out _).trans (hHeld.2.2.2.2.2.2.2.1)))), ((cell_far (p := ⟨J, _, none⟩) X.out _).trans (((cell_far (p := ⟨J, _, none⟩) X.out _).trans (hHeld.2.2.2.2.2.2.2.2.1)))), ((cell_far (p := ⟨J, _, none⟩) X.out _).trans (((cell_far (p := ⟨J, _, none⟩) X.out _).trans (hHeld.2.2.2.2.2.2.2.2.2))))⟩ (fun hHeld => ?_)
     clear hK K
     refine pu 7 5 ?_
     refine dn ?_
     try go_wp2
     refine bodyPost_ret (results_ct rfl _ _ J 34 #[.slice de b6.length df, .slice dg b7.length dh] (0, 0) _ rfl (bp I.out rfl) Try.underlying34 rfl (by kernel_rfl)) rfl ?_
     exact ⟨_, _, eqr, Kd.R_mono (rt ci.out I.out (by decide)) (fun _ hk => hk.1), Kd.R_mono (rt cj.out I.out (by decide)) (fun _ hk => hk.1), bs HB.out, ts HK.out⟩
    ·rw [if_neg aK] at H
     have c1 : (T == 2) = false := beq_eq_false_iff_ne.mpr aK
     have c5 : (T != 2) = true := bne_iff_ne.mpr aK
     by_cases aL : T = 3
     ·rw [if_pos aL] at H
      have di : (T == 3) = true := beq_iff_eq.mpr aL
      have dj : (T != 3) = false := bne_eq_false_iff_eq.mpr aL
      clear aL
      replace H := Option.bind_eq_some_iff.mp H
      obtain ⟨⟨cm, cn⟩, co, H⟩ := H
      try dsimp -simprocs only at H
      have dk := am co
      clear co
      simp only [Option.some.injEq, Prod.mk.injEq] at H
      obtain ⟨rfl, rfl, rfl⟩ := H
      obtain ⟨bi, bj, dl⟩ := Kd.R_slice D.out
      subst dl
      obtain ⟨bk, bl, dm⟩ := Kd.R_slice G.out
      subst dm
      go_enter Try.func96, Try.ntmps96
      go_wp2_with (first | ((with_reducible refine gd 2 rfl ?_); refine bx 2 (cs := #[.slice bi af.length bj, .slice bk ag.length bl]) (t := 34) ?_; intro au hg fU hbox hb; replace D := rb D hb; replace G := rb G hb; have z := am hbox; have aM := Ge.mk ((by rw [hg]; exact (by first | exact HK.out.1 | exact (show Kept w _ (fun k_ => L k_ ∨ O k_) from ts HK.out).1) : w.heap.size ≤ au)); replace HK := kl HK hb; have aN := gwb HB hg; replace HB := hs HB hb; clear hb hbox hg) | ((with_reducible refine gd 3 rfl ?_); refine bx 3 (cs := #[.int .i64 T, .int .i64 Y, .int .i64 Z, .int .i64 aa, .int .i64 ab, .int .i64 ac, .int .i64 ad, .int .i64 ae]) (t := 58) ?_; intro ah hg fV hbox hb; replace D := rb D hb; replace G := rb G hb; have y := am hbox; have aO := Ge.mk ((by rw [hg]; exact (by first | exact HK.out.1 | exact (show Kept w _ (fun k_ => L k_ ∨ O k_) from ts HK.out).1) : w.heap.size ≤ ah)); replace HK := kl HK hb; have aP := gwb HB hg; replace HB := hs HB hb; have aE := nq z hg; have aF := nq' z hg; replace z := bb z hb rfl; clear hb hbox hg) | ((with_reducible refine gd 4 rfl ?_); refine bx 4 (cs := #[.slice none 0 0, .slice none 0 0]) (t := 34) ?_; intro J hg dp hbox hb; replace D := rb D hb; replace G := rb G hb; have I := am hbox; have aQ := Ge.mk ((by rw [hg]; exact (by first | exact HK.out.1 | exact (show Kept w _ (fun k_ => L k_ ∨ O k_) from ts HK.out).1) : w.heap.size ≤ J)); replace HK := kl HK hb; have aR := gwb HB hg; replace HB := hs HB hb; have ai := nq z hg; have av := nq' z hg; replace z := bb z hb rfl; have X := nq y hg; have aw := nq' y hg; replace y := bb y hb rfl; clear hb hbox hg; have fW := aF.out; have fX := aE.out; have fY := X.out; have fZ := aw.out; obtain ⟨f0, f1, f2, f3, f4, f5, f6, f7⟩ := bc8 (w := dp) y.out; have f8 := blk_frozen y.out) | ((with_reducible refine gc 44 rfl ?_); refine gl 8 Try.func44 #[.agg #[.int .i64 T, .int .i64 Y, .int .i64 Z, .int .i64 aa, .int .i64 ab, .int .i64 ac, .int .i64 ad, .int .i64 ae]] ?_; (with_reducible refine (spec_OpLabel.calls k T Y Z aa ab ac ad ae aH _ A3.out).mono ?_); rintro e cp ⟨rfl, hb⟩; refine ⟨_, rfl, ?_⟩; replace D := rb D hb; replace G := rb G hb; replace z := bb z hb rfl; replace y := bb y hb rfl; replace I := bb I hb rfl; replace HK := kl HK hb; replace HB := hs HB hb; (try clear hb); have f9 := ai.out; have ga := av.out; obtain ⟨gb, ge⟩ := bc2 (w := cp) z.out; have gf := blk_frozen z.out; obtain ⟨gg, gh, gi, gj, gk, gm, gn, go⟩ := bc8 (w := cp) y.out; have gp := blk_frozen y.out) | ((with_reducible refine gc 123 rfl ?_); refine gl 13 Try.func123 #[.agg #[.slice bi af.length bj, .slice bk ag.length bl], .agg #[.int .i64 T, .int .i64 Y, .int .i64 Z, .int .i64 aa, .int .i64 ab, .int .i64 ac, .int .i64 ad, .int .i64 ae]] ?_; (with_reducible refine (spec_l2Ends.calls k _ _ af _ _ ag T Y Z aa ab ac ad ae aG _ ?ao ?ap ?aq ?ar aS.out).mono ?_); (case ao => exact cr D); (case ap => exact cc D); (case aq => exact cr G); (case ar => exact cc G); rintro e ct ⟨rfl, hb⟩; refine ⟨_, rfl, ?_⟩; replace D := rb D hb; replace G := rb G hb; replace z := bb z hb rfl; replace y := bb y hb rfl; replace I := bb I hb rfl; replace HK := kl HK hb; replace HB := hs HB hb; (try clear hb); obtain ⟨gq, gt, gu, gv, gw, gx, gy, gz⟩ := bc8 (w := ct) y.out; have gA := blk_frozen y.out; obtain ⟨gB, gC⟩ := bc2 (w := ct) z.out; have gD := blk_frozen z.out) | ((with_reducible refine gc 125 rfl ?_); refine gl 41 Try.func125 #[.agg #[.slice bi af.length bj, .slice bk ag.length bl], .agg #[.int .i64 aa, .int .i64 ab, .int .i64 ac, .int .i64 ad, .int .i64 ae]] ?_; (with_reducible refine (spec_l2Cut.calls k (fun k_ => some k_ = (.slice bi af.length bj : Value).ownBlock) (.slice bi af.length bj) af _ _ ag aa ab ac ad ae cm cn w0 _ ?ao ?ap ?aq ?ar dk.out).mono ?_); (case ao => exact bs HB.out); (case ap => exact Kd.R_tight rfl D.out); (case aq => exact Kd.C_kept_own ((Kd.R_apart' G.out (Kd.R_typed D.out) (by decide))) (fun k_ hk_ hs_ => (hk_.2) hs_)); (case ar => exact cc G); rintro e dq ⟨gE, dr, rfl, an, aj, hb, hkp⟩; refine ⟨_, rfl, ?_⟩; replace z := am (blk_kept (bf z.out) hkp (fun hs_ => (fun e_ => (Kd.R_ne D.out z.out (by decide)) e_) hs_)); replace y := am (blk_kept (bf y.out) hkp (fun hs_ => (fun e_ => (Kd.R_ne D.out y.out (by decide)) e_) hs_)); replace I := am (blk_kept (bf I.out) hkp (fun hs_ => (fun e_ => (Kd.R_ne D.out I.out (by decide)) e_) hs_)); have cu := am (Kd.R_mono (ok' := fun k_ => ((L k_ ∨ O k_) ∨ w.heap.size ≤ k_)) an (fun k_ hk_ => Or.elim hk_ (fun hs_ => (D.out.1 k_ (hs_).symm)) (fun hn_ => (.inr (Nat.le_trans (by first | exact HK.out.1 | exact (show Kept w _ (fun k_ => L k_ ∨ O k_) from ts HK.out).1) hn_))))); have cv := am (Kd.R_mono (ok' := fun k_ => ((L k_ ∨ O k_) ∨ w.heap.size ≤ k_) ∧ some k_ ≠ (.slice bk ag.length bl : Value).ownBlock) aj (fun k_ hk_ => ⟨Or.elim hk_ (fun hs_ => (D.out.1 k_ (hs_).symm)) (fun hn_ => (.inr (Nat.le_trans (by first | exact HK.out.1 | exact (show Kept w _ (fun k_ => L k_ ∨ O k_) from ts HK.out).1) hn_))), Or.elim hk_ (fun hs_ => fun e_ => ((((Kd.R_apart' G.out (Kd.R_typed D.out) (by decide))).1 k_ e_.symm).2) hs_) (fun hn_ => (Kd.fresh' (rk G) k_ hn_))⟩)); replace G := am (Kd.R_mono (ok' := fun k_ => ((L k_ ∨ O k_) ∨ w.heap.size ≤ k_) ∧ some k_ ≠ (dr : Value).ownBlock) (Kd.R_keptB ((Kd.R_apart' G.out (Kd.R_typed D.out) (by decide))) hkp (fun k_ hk_ hs_ => (hk_.2) hs_)) (fun k_ hk_ => ⟨hk_.1.1, fun e_ => Or.elim (aj.1 k_ e_.symm) (fun hs_ => hk_.2.1 hs_) (fun hn_ => Nat.not_le.2 hk_.2.2 hn_)⟩)); replace HK := am (Kept.then_ (S := (fun k_ => L k_ ∨ O k_)) (ts HK.out) hkp (fun k_ hs_ => (fun e_ => (D.out.1 k_ e_.symm)) hs_)); replace HB := am hb; clear D; (try clear hb); (try clear hkp); (try clear an); (try clear aj); obtain ⟨dt, du, dv⟩ := Kd.R_slice cu.out; subst dv; obtain ⟨gF, gG⟩ := bc2 (w := dq) I.out; have gH := blk_frozen I.out; obtain ⟨dw, dx, dy⟩ := Kd.R_slice cv.out; subst dy))
      refine bodyPost_ret (results_ct rfl _ _ J 34 #[.slice dt cm.length du, .slice dw cn.length dx] (0, 0) _ rfl (bp I.out rfl) Try.underlying34 rfl (by kernel_rfl)) rfl ?_
      exact ⟨_, _, eqr, Kd.R_mono (rt cu.out I.out (by decide)) (fun _ hk => hk), Kd.R_mono (rt cv.out I.out (by decide)) (fun _ hk => hk.1), bs HB.out, ts HK.out⟩
     ·rw [if_neg aL] at H
      have di : (T == 3) = false := beq_eq_false_iff_ne.mpr aL
      have dj : (T != 3) = true := bne_iff_ne.mpr aL
      replace H := Option.bind_eq_some_iff.mp H
      obtain ⟨⟨cy, cz⟩, cA, H⟩ := H
      try dsimp -simprocs only at H
      have dz := am cA
      clear cA
      simp only [Option.some.injEq, Prod.mk.injEq] at H
      obtain ⟨rfl, rfl, rfl⟩ := H
      obtain ⟨bB, bC, dA⟩ := Kd.R_slice D.out
      subst dA
      obtain ⟨bD, bE, dB⟩ := Kd.R_slice G.out
      subst dB
      go_enter Try.func96, Try.ntmps96
      go_wp2_with (first | ((with_reducible refine gd 2 rfl ?_); refine bx 2 (cs := #[.slice bB af.length bC, .slice bD ag.length bE]) (t := 34) ?_; intro au hg gI hbox hb; replace D := rb D hb; replace G := rb G hb; have z := am hbox; have aM := Ge.mk ((by rw [hg]; exact (by first | exact HK.out.1 | exact (show Kept w _ (fun k_ => L k_ ∨ O k_) from ts HK.out).1) : w.heap.size ≤ au)); replace HK := kl HK hb; have aN := gwb HB hg; replace HB := hs HB hb; clear hb hbox hg) | ((with_reducible refine gd 3 rfl ?_); refine bx 3 (cs := #[.int .i64 T, .int .i64 Y, .int .i64 Z, .int .i64 aa, .int .i64 ab, .int .i64 ac, .int .i64 ad, .int .i64 ae]) (t := 58) ?_; intro ah hg gJ hbox hb; replace D := rb D hb; replace G := rb G hb; have y := am hbox; have aO := Ge.mk ((by rw [hg]; exact (by first | exact HK.out.1 | exact (show Kept w _ (fun k_ => L k_ ∨ O k_) from ts HK.out).1) : w.heap.size ≤ ah)); replace HK := kl HK hb; have aP := gwb HB hg; replace HB := hs HB hb; have aE := nq z hg; have aF := nq' z hg; replace z := bb z hb rfl; clear hb hbox hg) | ((with_reducible refine gd 4 rfl ?_); refine bx 4 (cs := #[.slice none 0 0, .slice none 0 0]) (t := 34) ?_; intro J hg dC hbox hb; replace D := rb D hb; replace G := rb G hb; have I := am hbox; have aQ := Ge.mk ((by rw [hg]; exact (by first | exact HK.out.1 | exact (show Kept w _ (fun k_ => L k_ ∨ O k_) from ts HK.out).1) : w.heap.size ≤ J)); replace HK := kl HK hb; have aR := gwb HB hg; replace HB := hs HB hb; have ai := nq z hg; have av := nq' z hg; replace z := bb z hb rfl; have X := nq y hg; have aw := nq' y hg; replace y := bb y hb rfl; clear hb hbox hg; have gK := aF.out; have gL := aE.out; have gM := X.out; have gN := aw.out; obtain ⟨gO, gP, gQ, gR, gS, gT, gU, gV⟩ := bc8 (w := dC) y.out; have gW := blk_frozen y.out) | ((with_reducible refine gc 44 rfl ?_); refine gl 8 Try.func44 #[.agg #[.int .i64 T, .int .i64 Y, .int .i64 Z, .int .i64 aa, .int .i64 ab, .int .i64 ac, .int .i64 ad, .int .i64 ae]] ?_; (with_reducible refine (spec_OpLabel.calls k T Y Z aa ab ac ad ae aH _ A3.out).mono ?_); rintro e cB ⟨rfl, hb⟩; refine ⟨_, rfl, ?_⟩; replace D := rb D hb; replace G := rb G hb; replace z := bb z hb rfl; replace y := bb y hb rfl; replace I := bb I hb rfl; replace HK := kl HK hb; replace HB := hs HB hb; (try clear hb); have gX := ai.out; have gY := av.out; obtain ⟨gZ, g0⟩ := bc2 (w := cB) z.out; have g1 := blk_frozen z.out; obtain ⟨g2, g3, g4, g5, g6, g7, g8, g9⟩ := bc8 (w := cB) y.out; have hh := blk_frozen y.out) | ((with_reducible refine gc 123 rfl ?_); refine gl 13 Try.func123 #[.agg #[.slice bB af.length bC, .slice bD ag.length bE], .agg #[.int .i64 T, .int .i64 Y, .int .i64 Z, .int .i64 aa, .int .i64 ab, .int .i64 ac, .int .i64 ad, .int .i64 ae]] ?_; (with_reducible refine (spec_l2Ends.calls k _ _ af _ _ ag T Y Z aa ab ac ad ae aG _ ?ao ?ap ?aq ?ar aS.out).mono ?_); (case ao => exact cr D); (case ap => exact cc D); (case aq => exact cr G); (case ar => exact cc G); rintro e cC ⟨rfl, hb⟩; refine ⟨_, rfl, ?_⟩; replace D := rb D hb; replace G := rb G hb; replace z := bb z hb rfl; replace y := bb y hb rfl; replace I := bb I hb rfl; replace HK := kl HK hb; replace HB := hs HB hb; (try clear hb); obtain ⟨hj, ho, hp, hu, hv, hx, hy, hz⟩ := bc8 (w := cC) y.out; have hA := blk_frozen y.out; obtain ⟨hC, hD⟩ := bc2 (w := cC) z.out; have hE := blk_frozen z.out) | ((with_reducible refine gc 126 rfl ?_); refine gl 46 Try.func126 #[.agg #[.slice bB af.length bC, .slice bD ag.length bE], .agg #[.int .i64 Y, .int .i64 Z]] ?_; (with_reducible refine (spec_l2Off.calls k _ _ af _ _ ag Y Z cy cz _ ?ao ?ap ?aq ?ar dz.out).mono ?_); (case ao => exact cr D); (case ap => exact cc D); (case aq => exact cr G); (case ar => exact cc G); rintro e dD ⟨hF, hG, rfl, an, aj, hb⟩; refine ⟨_, rfl, ?_⟩; have cD := am (Kd.R_lower (Kd.R_new' (Kd.R_newM (M := fun k_ => ((L k_ ∨ O k_) ∨ w.heap.size ≤ k_)) an (by first | exact HK.out.1 | exact (show Kept w _ (fun k_ => L k_ ∨ O k_) from ts HK.out).1) (fun k_ h_ => .inr h_)) (rk D)) (below_size (bs HB.out))); replace D := re D an hb; have cE := am (Kd.R_lower (Kd.R_new' (Kd.R_newM (M := fun k_ => ((L k_ ∨ O k_) ∨ w.heap.size ≤ k_)) aj (by first | exact HK.out.1 | exact (show Kept w _ (fun k_ => L k_ ∨ O k_) from ts HK.out).1) (fun k_ h_ => .inr h_)) (rk G)) (below_size (bs HB.out))); replace G := re G aj hb; replace z := bb z hb rfl; replace y := bb y hb rfl; replace I := bb I hb rfl; replace HK := kl HK hb; replace HB := hs HB hb; (try clear hb); (try clear hb2); (try clear hk); (try clear hi); (try clear an); (try clear aj); obtain ⟨dE, dF, dG⟩ := Kd.R_slice cD.out; subst dG; obtain ⟨hH, hI⟩ := bc2 (w := dD) I.out; have hJ := blk_frozen I.out; obtain ⟨dH, dI, dJ⟩ := Kd.R_slice cE.out; subst dJ))
      refine bodyPost_ret (results_ct rfl _ _ J 34 #[.slice dE cy.length dF, .slice dH cz.length dI] (0, 0) _ rfl (bp I.out rfl) Try.underlying34 rfl (by kernel_rfl)) rfl ?_
      exact ⟨_, _, eqr, Kd.R_mono (rt cD.out I.out (by decide)) (fun _ hk => hk.1.1), Kd.R_mono (rt cE.out I.out (by decide)) (fun _ hk => hk.1.1), bs HB.out, ts HK.out⟩
  ·rw [if_neg aI] at H
   have cM : (aG == 0) = false := beq_eq_false_iff_ne.mpr aI
   have cN : (aG != 0) = true := bne_iff_ne.mpr aI
   simp only [Option.some.injEq, Prod.mk.injEq] at H
   obtain ⟨rfl, rfl, rfl⟩ := H
   obtain ⟨bF, bG, dK⟩ := Kd.R_slice D.out
   subst dK
   obtain ⟨bH, bI, dL⟩ := Kd.R_slice G.out
   subst dL
   go_enter Try.func96, Try.ntmps96
   go_wp2_with (first | ((with_reducible refine gd 2 rfl ?_); refine bx 2 (cs := #[.slice bF af.length bG, .slice bH ag.length bI]) (t := 34) ?_; intro au hg hL hbox hb; replace D := rb D hb; replace G := rb G hb; have z := am hbox; have aM := Ge.mk ((by rw [hg]; exact (by first | exact HK.out.1 | exact (show Kept w _ (fun k_ => L k_ ∨ O k_) from ts HK.out).1) : w.heap.size ≤ au)); replace HK := kl HK hb; have aN := gwb HB hg; replace HB := hs HB hb; clear hb hbox hg) | ((with_reducible refine gd 3 rfl ?_); refine bx 3 (cs := #[.int .i64 T, .int .i64 Y, .int .i64 Z, .int .i64 aa, .int .i64 ab, .int .i64 ac, .int .i64 ad, .int .i64 ae]) (t := 58) ?_; intro ah hg hM hbox hb; replace D := rb D hb; replace G := rb G hb; have y := am hbox; have aO := Ge.mk ((by rw [hg]; exact (by first | exact HK.out.1 | exact (show Kept w _ (fun k_ => L k_ ∨ O k_) from ts HK.out).1) : w.heap.size ≤ ah)); replace HK := kl HK hb; have aP := gwb HB hg; replace HB := hs HB hb; have aE := nq z hg; have aF := nq' z hg; replace z := bb z hb rfl; clear hb hbox hg) | ((with_reducible refine gd 4 rfl ?_); refine bx 4 (cs := #[.slice none 0 0, .slice none 0 0]) (t := 34) ?_; intro J hg dM hbox hb; replace D := rb D hb; replace G := rb G hb; have I := am hbox; have aQ := Ge.mk ((by rw [hg]; exact (by first | exact HK.out.1 | exact (show Kept w _ (fun k_ => L k_ ∨ O k_) from ts HK.out).1) : w.heap.size ≤ J)); replace HK := kl HK hb; have aR := gwb HB hg; replace HB := hs HB hb; have ai := nq z hg; have av := nq' z hg; replace z := bb z hb rfl; have X := nq y hg; have aw := nq' y hg; replace y := bb y hb rfl; clear hb hbox hg; have hO := aF.out; have hP := aE.out; have hR := X.out; have hT := aw.out; obtain ⟨hU, hV, hW, hX, hY, hZ, h0, h1⟩ := bc8 (w := dM) y.out; have h2 := blk_frozen y.out) | ((with_reducible refine gc 44 rfl ?_); refine gl 8 Try.func44 #[.agg #[.int .i64 T, .int .i64 Y, .int .i64 Z, .int .i64 aa, .int .i64 ab, .int .i64 ac, .int .i64 ad, .int .i64 ae]] ?_; (with_reducible refine (spec_OpLabel.calls k T Y Z aa ab ac ad ae aH _ A3.out).mono ?_); rintro e cF ⟨rfl, hb⟩; refine ⟨_, rfl, ?_⟩; replace D := rb D hb; replace G := rb G hb; replace z := bb z hb rfl; replace y := bb y hb rfl; replace I := bb I hb rfl; replace HK := kl HK hb; replace HB := hs HB hb; (try clear hb); have h3 := ai.out; have h4 := av.out; obtain ⟨h5, h6⟩ := bc2 (w := cF) z.out; have h7 := blk_frozen z.out; obtain ⟨h8, h9, ia, ib, ic, ie, ig, ih⟩ := bc8 (w := cF) y.out; have ii := blk_frozen y.out) | ((with_reducible refine gc 123 rfl ?_); refine gl 13 Try.func123 #[.agg #[.slice bF af.length bG, .slice bH ag.length bI], .agg #[.int .i64 T, .int .i64 Y, .int .i64 Z, .int .i64 aa, .int .i64 ab, .int .i64 ac, .int .i64 ad, .int .i64 ae]] ?_; (with_reducible refine (spec_l2Ends.calls k _ _ af _ _ ag T Y Z aa ab ac ad ae aG _ ?ao ?ap ?aq ?ar aS.out).mono ?_); (case ao => exact cr D); (case ap => exact cc D); (case aq => exact cr G); (case ar => exact cc G); rintro e cG ⟨rfl, hb⟩; refine ⟨_, rfl, ?_⟩; replace D := rb D hb; replace G := rb G hb; replace z := bb z hb rfl; replace y := bb y hb rfl; replace I := bb I hb rfl; replace HK := kl HK hb; replace HB := hs HB hb; (try clear hb); obtain ⟨ij, ik⟩ := bc2 (w := cG) z.out; have il := blk_frozen z.out; obtain ⟨im, io⟩ := bc2 (w := cG) I.out; have ip := blk_frozen I.out))
   refine bodyPost_ret (results_ct rfl _ _ J 34 #[.slice bF af.length bG, .slice bH ag.length bI] (0, 0) _ rfl (bp I.out rfl) Try.underlying34 rfl (by kernel_rfl)) rfl ?_
   exact ⟨_, _, eqr, Kd.R_mono (rt D.out I.out (by decide)) (fun _ hk => hk), Kd.R_mono (rt G.out I.out (by decide)) (fun _ hk => hk), bs HB.out, ts HK.out⟩

/-! ### spec_GraphDo: function 51 -/
def spec_GraphDo.f (k : Nat) (y : List (S36)) (z : List (S56)) (I : Int) (J : Int) (L : Int) (O : Int) (T : Int) (X : Int) (Y : Int) (Z : Int) : Option ((List (S36)) × (List (S56)) × Int) := (spec_GraphOk.f k y z).bind fun aa => (if aa = true then ((spec_l2Copy.f y z).bind fun D => ((spec_l2Do.f k D.1 D.2 I J L O T X Y Z).bind fun s => ((spec_l2Copy.f s.1 s.2.1).bind fun G => (some (G.1, G.2, s.2.2))))) else (some (([] : List (S36)), ([] : List (S56)), 1)))
def spec_GraphDo.T3 : Bool × List (List Nat × List Nat) := (true, [([], []), ([0], [0]), ([], []), ([1, 2, 1], [1, 2]), ([3], [3]), ([4], [4]), ([4], [4]), ([], []), ([7, 5, 3, 0, 1, 2, 3, 4, 5, 7], [5, 7]), ([6, 8, 0, 1, 2, 3, 4, 5, 6, 7, 8], [6])])
def spec_GraphDo.B3 : List Nat := [0, 1, 0, 7, 15, 31, 31, 0, 191, 511]
theorem spec_GraphDo.tab3 : rtab .any (opsOf Try.f51 3) = spec_GraphDo.T3 := by kernel_rfl
theorem spec_GraphDo.bits3 : waitsOk spec_GraphDo.T3.2 spec_GraphDo.B3 = true := by kernel_rfl
theorem spec_GraphDo.calls (k : Nat) (ax : Option Addr) (ay : Nat) (Z : List (S36)) (az : Option Addr) (aA : Nat) (aa : List (S56)) (ae : Int) (af : Int) (ag : Int) (ah : Int) (ai : Int) (aj : Int) (ak : Int) (al : Int) (r1 : List (S36)) (r2 : List (S56)) (r3 : Int) (w : World) (bt : Kd.C k36 w ax Z.length Z) (bu : Z.length ≤ ay) (bv : Kd.C k56 w az aa.length aa) (bw : aa.length ≤ aA) (h : spec_GraphDo.f k Z aa ae af ag ah ai aj ak al = some (r1, r2, r3)) :
  Calls Try.prog 51 #[.agg #[.slice ax Z.length ay, .slice az aa.length aA], .agg #[.int .i64 ae, .int .i64 af, .int .i64 ag, .int .i64 ah, .int .i64 ai, .int .i64 aj, .int .i64 ak, .int .i64 al]] w fun e w' => ∃ bz bA : Value, e = .returned (.tuple #[.agg #[bz, bA], .int .i64 r3]) ∧ Kd.R k36 36 w' w.heap.size (fun _ => True) bz r1 ∧ Kd.R k56 56 w' w.heap.size (fun _ => True) bA r2 ∧ Below w.heap.size w w' := by
 have hu34 := Try.underlying34
 have hu58 := Try.underlying58
 have aY := am bt
 have aZ := am bu
 clear bt bu
 have ba := am bv
 have bc := am bw
 clear bv bw
 have HB := am (Below.refl w.heap.size w)
 have H := h; unfold spec_GraphDo.f at H
 clear h
 replace H := Option.bind_eq_some_iff.mp H
 obtain ⟨cu, bB, H⟩ := H
 try dsimp -simprocs only at H
 have A3 := am bB
 clear bB
 by_cases c4 : cu = true
 ·subst c4
  replace H : ((spec_l2Copy.f Z aa).bind fun bC => ((spec_l2Do.f k bC.1 bC.2 ae af ag ah ai aj ak al).bind fun bh => ((spec_l2Copy.f bh.1 bh.2.1).bind fun bD => (some (bD.1, bD.2, bh.2.2))))) = some (r1, r2, r3) := by rw [if_pos rfl] at H; exact H
  replace H := Option.bind_eq_some_iff.mp H
  obtain ⟨⟨an, ao⟩, bE, H⟩ := H
  try dsimp -simprocs only at H
  have A5 := am bE
  clear bE
  replace H := Option.bind_eq_some_iff.mp H
  obtain ⟨⟨aI, aJ, aU⟩, bF, H⟩ := H
  try dsimp -simprocs only at H
  have A6 := am bF
  clear bF
  replace H := Option.bind_eq_some_iff.mp H
  obtain ⟨⟨bG, bH⟩, bI, H⟩ := H
  try dsimp -simprocs only at H
  have A7 := am bI
  clear bI
  simp only [Option.some.injEq, Prod.mk.injEq] at H
  obtain ⟨rfl, rfl, rfl⟩ := H
  go_enter Try.func51, Try.ntmps51
  try go_wp2_with (first | ((with_reducible refine gd 2 rfl ?_); refine bx 2 (cs := #[.slice ax Z.length ay, .slice az aa.length aA]) (t := 34) ?_; intro aB hg w8 hbox hb; have z := am hbox; have cv := gwb HB hg; replace HB := hs HB hb; clear hb hbox hg) | ((with_reducible refine gd 3 rfl ?_); refine bx 3 (cs := #[.int .i64 ae, .int .i64 af, .int .i64 ag, .int .i64 ah, .int .i64 ai, .int .i64 aj, .int .i64 ak, .int .i64 al]) (t := 58) ?_; intro I hg w9 hbox hb; have s := am hbox; have cy := gwb HB hg; replace HB := hs HB hb; have bi := nq z hg; have bj := nq' z hg; replace z := bb z hb rfl; clear hb hbox hg) | ((with_reducible refine gd 4 rfl ?_); refine bx 4 (cs := #[.slice none 0 0, .slice none 0 0]) (t := 34) ?_; intro aH hg cz hbox hb; have D := am hbox; have cA := gwb HB hg; replace HB := hs HB hb; have bk := nq z hg; have bl := nq' z hg; replace z := bb z hb rfl; have bm := nq s hg; have bn := nq' s hg; replace s := bb s hb rfl; clear hb hbox hg; have cN := bi.out; have cO := bj.out; have cP := bk.out; have cQ := bl.out; obtain ⟨cR, cS⟩ := bc2 (w := cz) z.out; have cT := blk_frozen z.out) | ((with_reducible refine gc 33 rfl ?_); refine gl 9 Try.func33 #[.agg #[.slice ax Z.length ay, .slice az aa.length aA]] ?_; (with_reducible refine (spec_GraphOk.calls k _ _ Z _ _ aa true _ ?ap ?aq ?ar ?aK A3.out).mono ?_); (case ap => exact Kd.C_below aY.out (bs HB.out)); (case aq => exact aZ.out); (case ar => exact Kd.C_below ba.out (bs HB.out)); (case aK => exact bc.out); rintro e cB ⟨rfl, hb⟩; refine ⟨_, rfl, ?_⟩; replace z := bb z hb rfl; replace s := bb s hb rfl; replace D := bb D hb rfl; replace HB := hs HB hb; (try clear hb)))
  replace z := bd z
  replace s := bd s
  replace D := bd D
  replace HB := hd HB
  refine sta 10 (fun w' => w'.cell? ⟨aB, 0, none⟩ = some (.slice ax Z.length ay) ∧ w'.cell? ⟨aB, 1, none⟩ = some (.slice az aa.length aA) ∧ w'.cell? ⟨I, 0, none⟩ = some (.int .i64 ae) ∧ w'.cell? ⟨I, 1, none⟩ = some (.int .i64 af) ∧ w'.cell? ⟨I, 2, none⟩ = some (.int .i64 ag) ∧ w'.cell? ⟨I, 3, none⟩ = some (.int .i64 ah) ∧ w'.cell? ⟨I, 4, none⟩ = some (.int .i64 ai) ∧ w'.cell? ⟨I, 5, none⟩ = some (.int .i64 aj) ∧ w'.cell? ⟨I, 6, none⟩ = some (.int .i64 ak) ∧ w'.cell? ⟨I, 7, none⟩ = some (.int .i64 al)) [] ⟨cx z 0, cx z 1, cx s 0, cx s 1, cx s 2, cx s 3, cx s 4, cx s 5, cx s 6, cx s 7⟩ (fun hHeld => ?_); refine with_tabW spec_GraphDo.tab3 spec_GraphDo.bits3 (fun HT_ HW_ => ?_)
  generalize cB.drew = cU at z s D HB hHeld ⊢
  refine tk 0 13 ?_
  refine tk 2 15 ?_
  refine join_ (σ := Value × Value × Value × Value × Nat) 2 #[true, true, true, true, true, true, true, true, false, false] (fun s_ => [(14, .agg #[s_.1, s_.2.1]), (16, .tuple #[.agg #[s_.2.2.1, s_.2.2.2.1], .int .i64 aU]), (6, .pointer (some ⟨s_.2.2.2.2, 0, none⟩)), (12, .tuple #[.agg #[s_.2.2.1, s_.2.2.2.1], .int .i64 aU]), (17, .agg #[s_.2.2.1, s_.2.2.2.1]), (18, .int .i64 aU)]) (fun s_ w' => (w'.cell? ⟨aB, 0, none⟩ = some (.slice ax Z.length ay) ∧ w'.cell? ⟨aB, 1, none⟩ = some (.slice az aa.length aA) ∧ w'.cell? ⟨I, 0, none⟩ = some (.int .i64 ae) ∧ w'.cell? ⟨I, 1, none⟩ = some (.int .i64 af) ∧ w'.cell? ⟨I, 2, none⟩ = some (.int .i64 ag) ∧ w'.cell? ⟨I, 3, none⟩ = some (.int .i64 ah) ∧ w'.cell? ⟨I, 4, none⟩ = some (.int .i64 ai) ∧ w'.cell? ⟨I, 5, none⟩ = some (.int .i64 aj) ∧ w'.cell? ⟨I, 6, none⟩ = some (.int .i64 ak) ∧ w'.cell? ⟨I, 7, none⟩ = some (.int .i64 al)) ∧ (Kd.R k36 36 w' w.heap.size (fun _ => True) s_.2.2.1 aI) ∧ (Kd.R k56 56 w' w.heap.size (fun _ => True) s_.2.2.2.1 aJ) ∧ (w'.heap[aB]? = some (.cells #[.slice ax Z.length ay, .slice az aa.length aA] 34 (0, 0))) ∧ (w'.heap[I]? = some (.cells #[.int .i64 ae, .int .i64 af, .int .i64 ag, .int .i64 ah, .int .i64 ai, .int .i64 aj, .int .i64 ak, .int .i64 al] 58 (0, 0))) ∧ (w'.heap[aH]? = some (.cells #[.slice none 0 0, .slice none 0 0] 34 (0, 0))) ∧ (w'.heap[s_.2.2.2.2]? = some (.cells #[.slice none 0 0, .slice none 0 0] 34 (0, 0))) ∧ (w.heap.size ≤ s_.2.2.2.2) ∧ (w.heap.size ≤ s_.2.2.2.2) ∧ (aB ≠ s_.2.2.2.2) ∧ (s_.2.2.2.2 ≠ aB) ∧ (I ≠ s_.2.2.2.2) ∧ (s_.2.2.2.2 ≠ I) ∧ (aH ≠ s_.2.2.2.2) ∧ (s_.2.2.2.2 ≠ aH) ∧ (Below w.heap.size w w')) ?_ ?_
  rotate_left
  ·intro hCont
   refine two_ (i := 1) (j := 7) (Ni := some 14) (Nj := some 6) #[true, true, true, false, false, false, false, false, false, false] #[true, false, true, false, false, false, false, true, false, false] rfl rfl rfl rfl (two_of HT_.out (by kernel_rfl)) (by decide) (by decide) (fun K hK => ?_) (fun K hK => ?_)
   ·skip
    refine gs Try.func97 #[.agg #[.slice ax Z.length ay, .slice az aa.length aA]] ?_
    with_reducible refine (spec_l2Copy.calls _ _ Z _ _ aa an ao _ ?ap ?aq ?ar ?aK A5.out).mono ?_
    (case ap => exact Kd.C_below aY.out (bs HB.out))
    (case aq => exact aZ.out)
    (case ar => exact Kd.C_below ba.out (bs HB.out))
    (case aK => exact bc.out)
    rintro e cC ⟨bJ, bK, rfl, ac, ad, hb⟩
    refine ⟨_, rfl, ?_⟩
    have O := am (Kd.R_lower ac (below_size (bs HB.out)))
    have T := am (Kd.R_lower ad (below_size (bs HB.out)))
    replace z := bb z hb rfl
    replace s := bb s hb rfl
    replace D := bb D hb rfl
    replace HB := hs HB hb
    (try clear hb)
    (try clear hb2)
    (try clear hk)
    (try clear hi)
    (try clear ac)
    (try clear ad)
    obtain ⟨be, bg, bL⟩ := Kd.R_slice O.out
    (first | subst bL | (injection bL with X au Y; have av := X.symm; have aw := Y.symm; clear X au Y; subst av; subst aw))
    obtain ⟨aC, aD, aR⟩ := Kd.R_slice T.out
    (first | subst aR | (injection aR with X au Y; have av := X.symm; have aw := Y.symm; clear X au Y; subst av; subst aw))
    refine hK.out _ _ ⟨cx z 0, cx z 1, cx s 0, cx s 1, cx s 2, cx s 3, cx s 4, cx s 5, cx s 6, cx s 7⟩ (fun hHeld => ?_)
    clear hK K
    refine nrm 14 ?_
    refine two_ (i := 3) (j := 7) (Ni := some 16) (Nj := some 6) #[true, true, true, true, false, false, false, false, false, false] #[true, true, true, false, false, false, false, true, false, false] rfl rfl rfl rfl (two_of HT_.out (by kernel_rfl)) (by decide) (by decide) (fun K hK => ?_) (fun K hK => ?_)
    ·skip
     refine gs Try.func96 #[.agg #[.slice be an.length bg, .slice aC ao.length aD], .agg #[.int .i64 ae, .int .i64 af, .int .i64 ag, .int .i64 ah, .int .i64 ai, .int .i64 aj, .int .i64 ak, .int .i64 al]] ?_
     with_reducible refine (spec_l2Do.calls k (fun k_ => some k_ = (.slice be an.length bg : Value).ownBlock) (.slice be an.length bg) an (fun k_ => some k_ = (.slice aC ao.length aD : Value).ownBlock) (.slice aC ao.length aD) ao ae af ag ah ai aj ak al aI aJ aU w _ ?ap ?aq ?ar A6.out).mono ?_
     (case ap => exact bs HB.out)
     (case aq => exact Kd.R_tight rfl O.out)
     (case ar => exact Kd.R_tight rfl T.out)
     rintro e cV ⟨aS, aT, rfl, ac, ad, hb, hkp⟩
     refine ⟨_, rfl, ?_⟩
     replace z := am (blk_kept (bf z.out) hkp (fun hs_ => Or.elim hs_ (fun e_ => (fun e_ => (Kd.R_ne O.out z.out (by decide)) e_) e_) (fun e_ => (fun e_ => (Kd.R_ne T.out z.out (by decide)) e_) e_)))
     replace s := am (blk_kept (bf s.out) hkp (fun hs_ => Or.elim hs_ (fun e_ => (fun e_ => (Kd.R_ne O.out s.out (by decide)) e_) e_) (fun e_ => (fun e_ => (Kd.R_ne T.out s.out (by decide)) e_) e_)))
     replace D := am (blk_kept (bf D.out) hkp (fun hs_ => Or.elim hs_ (fun e_ => (fun e_ => (Kd.R_ne O.out D.out (by decide)) e_) e_) (fun e_ => (fun e_ => (Kd.R_ne T.out D.out (by decide)) e_) e_)))
     have aE := am (Kd.R_mono (ok' := fun k_ => True) ac (fun k_ hk_ => trivial))
     have aF := am (Kd.R_mono (ok' := fun k_ => True) ad (fun k_ hk_ => trivial))
     replace HB := am hb
     clear O T
     (try clear hb)
     (try clear hkp)
     (try clear ac)
     (try clear ad)
     refine hK.out _ _ ⟨cx z 0, cx z 1, cx s 0, cx s 1, cx s 2, cx s 3, cx s 4, cx s 5, cx s 6, cx s 7⟩ (fun hHeld => ?_)
     clear hK K
     refine nrm 16 ?_
     refine pu 4 12 ?_
     refine pu 5 17 ?_
     refine pu 6 18 ?_
     refine on 7 6 (fun K hK => ?_)
     refine box_step ?hg (N := 6) ?hd (cs := #[.slice none 0 0, .slice none 0 0]) (t := 34) ?hr ?_; (case hd => rfl); (case hg => rfl); (case hr => first | (go_simp; done) | (go_simp; rfl))
     intro G hg bM hbox hb
     replace aE := rb aE hb
     replace aF := rb aF hb
     have J := am hbox
     have aV := gwb HB hg
     have aW := gwb HB hg
     replace HB := hs HB hb
     have aG := nq z hg
     have aL := nq' z hg
     replace z := bb z hb rfl
     have L := nq s hg
     have aM := nq' s hg
     replace s := bb s hb rfl
     have aN := nq D hg
     have aO := nq' D hg
     replace D := bb D hb rfl
     clear hb hbox hg
     refine hK.out _ _ ⟨cx z 0, cx z 1, cx s 0, cx s 1, cx s 2, cx s 3, cx s 4, cx s 5, cx s 6, cx s 7⟩ (fun hHeld => ?_)
     clear hK K
     refine nrm 6 ?_
     exact norm_ (by simp only [putAll, Act.put, List.setIfInBounds_toArray, List.set_cons_zero, List.set_cons_succ]) (hCont (.slice be an.length bg, .slice aC ao.length aD, aS, aT, G) _ ⟨hHeld, (rl aE.out), (rl aF.out), (bf z.out), (bf s.out), (bf D.out), (bf J.out), aV.out, aW.out, aG.out, aL.out, L.out, aM.out, aN.out, aO.out, (bs HB.out)⟩)
    ·skip
     refine box_step ?hg (N := 6) ?hd (cs := #[.slice none 0 0, .slice none 0 0]) (t := 34) ?hr ?_; (case hd => rfl); (case hg => rfl); (case hr => first | (go_simp; done) | (go_simp; rfl))
     intro G hg cD hbox hb
     replace O := rb O hb
     replace T := rb T hb
     have J := am hbox
     have aV := gwb HB hg
     have aW := gwb HB hg
     replace HB := hs HB hb
     have aG := nq z hg
     have aL := nq' z hg
     replace z := bb z hb rfl
     have L := nq s hg
     have aM := nq' s hg
     replace s := bb s hb rfl
     have aN := nq D hg
     have aO := nq' D hg
     replace D := bb D hb rfl
     clear hb hbox hg
     obtain ⟨aC, aD, aR⟩ := Kd.R_slice O.out
     (first | subst aR | (injection aR with X au Y; have av := X.symm; have aw := Y.symm; clear X au Y; subst av; subst aw))
     obtain ⟨aP, aQ, aX⟩ := Kd.R_slice T.out
     (first | subst aX | (injection aX with X au Y; have av := X.symm; have aw := Y.symm; clear X au Y; subst av; subst aw))
     refine hK.out _ _ ⟨cx z 0, cx z 1, cx s 0, cx s 1, cx s 2, cx s 3, cx s 4, cx s 5, cx s 6, cx s 7⟩ (fun hHeld => ?_)
     clear hK K
     refine nrm 6 ?_
     refine on 3 16 (fun K hK => ?_)
     refine gs Try.func96 #[.agg #[.slice aC an.length aD, .slice aP ao.length aQ], .agg #[.int .i64 ae, .int .i64 af, .int .i64 ag, .int .i64 ah, .int .i64 ai, .int .i64 aj, .int .i64 ak, .int .i64 al]] ?_
     with_reducible refine (spec_l2Do.calls k (fun k_ => some k_ = (.slice aC an.length aD : Value).ownBlock) (.slice aC an.length aD) an (fun k_ => some k_ = (.slice aP ao.length aQ : Value).ownBlock) (.slice aP ao.length aQ) ao ae af ag ah ai aj ak al aI aJ aU w _ ?ap ?aq ?ar A6.out).mono ?_
     (case ap => exact bs HB.out)
     (case aq => exact Kd.R_tight rfl O.out)
     (case ar => exact Kd.R_tight rfl T.out)
     rintro e bM ⟨aS, aT, rfl, ac, ad, hb, hkp⟩
     refine ⟨_, rfl, ?_⟩
     replace z := am (blk_kept (bf z.out) hkp (fun hs_ => Or.elim hs_ (fun e_ => (fun e_ => (Kd.R_ne O.out z.out (by decide)) e_) e_) (fun e_ => (fun e_ => (Kd.R_ne T.out z.out (by decide)) e_) e_)))
     replace s := am (blk_kept (bf s.out) hkp (fun hs_ => Or.elim hs_ (fun e_ => (fun e_ => (Kd.R_ne O.out s.out (by decide)) e_) e_) (fun e_ => (fun e_ => (Kd.R_ne T.out s.out (by decide)) e_) e_)))
     replace D := am (blk_kept (bf D.out) hkp (fun hs_ => Or.elim hs_ (fun e_ => (fun e_ => (Kd.R_ne O.out D.out (by decide)) e_) e_) (fun e_ => (fun e_ => (Kd.R_ne T.out D.out (by decide)) e_) e_)))
     replace J := am (blk_kept (bf J.out) hkp (fun hs_ => Or.elim hs_ (fun e_ => (fun e_ => (Kd.R_ne O.out J.out (by decide)) e_) e_) (fun e_ => (fun e_ => (Kd.R_ne T.out J.out (by decide)) e_) e_)))
     have aE := am (Kd.R_mono (ok' := fun k_ => True) ac (fun k_ hk_ => trivial))
     have aF := am (Kd.R_mono (ok' := fun k_ => True) ad (fun k_ hk_ => trivial))
     replace HB := am hb
     clear O T
     (try clear hb)
     (try clear hkp)
     (try clear ac)
     (try clear ad)
     refine hK.out _ _ ⟨cx z 0, cx z 1, cx s 0, cx s 1, cx s 2, cx s 3, cx s 4, cx s 5, cx s 6, cx s 7⟩ (fun hHeld => ?_)
     clear hK K
     refine nrm 16 ?_
     refine pu 4 12 ?_
     refine pu 5 17 ?_
     refine pu 6 18 ?_
     exact norm_ (by simp only [putAll, Act.put, List.setIfInBounds_toArray, List.set_cons_zero, List.set_cons_succ]) (hCont (.slice aC an.length aD, .slice aP ao.length aQ, aS, aT, G) _ ⟨hHeld, (rl aE.out), (rl aF.out), (bf z.out), (bf s.out), (bf D.out), (bf J.out), aV.out, aW.out, aG.out, aL.out, L.out, aM.out, aN.out, aO.out, (bs HB.out)⟩)
   ·skip
    refine box_step ?hg (N := 6) ?hd (cs := #[.slice none 0 0, .slice none 0 0]) (t := 34) ?hr ?_; (case hd => rfl); (case hg => rfl); (case hr => first | (go_simp; done) | (go_simp; rfl))
    intro G hg cC hbox hb
    have J := am hbox
    have aV := gwb HB hg
    have aW := gwb HB hg
    replace HB := hs HB hb
    have aG := nq z hg
    have aL := nq' z hg
    replace z := bb z hb rfl
    have L := nq s hg
    have aM := nq' s hg
    replace s := bb s hb rfl
    have aN := nq D hg
    have aO := nq' D hg
    replace D := bb D hb rfl
    clear hb hbox hg
    refine hK.out _ _ ⟨cx z 0, cx z 1, cx s 0, cx s 1, cx s 2, cx s 3, cx s 4, cx s 5, cx s 6, cx s 7⟩ (fun hHeld => ?_)
    clear hK K
    refine nrm 6 ?_
    refine on 1 14 (fun K hK => ?_)
    refine gs Try.func97 #[.agg #[.slice ax Z.length ay, .slice az aa.length aA]] ?_
    with_reducible refine (spec_l2Copy.calls _ _ Z _ _ aa an ao _ ?ap ?aq ?ar ?aK A5.out).mono ?_
    (case ap => exact Kd.C_below aY.out (bs HB.out))
    (case aq => exact aZ.out)
    (case ar => exact Kd.C_below ba.out (bs HB.out))
    (case aK => exact bc.out)
    rintro e cD ⟨bJ, bK, rfl, ac, ad, hb⟩
    refine ⟨_, rfl, ?_⟩
    have O := am (Kd.R_lower ac (below_size (bs HB.out)))
    have T := am (Kd.R_lower ad (below_size (bs HB.out)))
    replace z := bb z hb rfl
    replace s := bb s hb rfl
    replace D := bb D hb rfl
    replace J := bb J hb rfl
    replace HB := hs HB hb
    (try clear hb)
    (try clear hb2)
    (try clear hk)
    (try clear hi)
    (try clear ac)
    (try clear ad)
    obtain ⟨aC, aD, aR⟩ := Kd.R_slice O.out
    (first | subst aR | (injection aR with X au Y; have av := X.symm; have aw := Y.symm; clear X au Y; subst av; subst aw))
    obtain ⟨aP, aQ, aX⟩ := Kd.R_slice T.out
    (first | subst aX | (injection aX with X au Y; have av := X.symm; have aw := Y.symm; clear X au Y; subst av; subst aw))
    refine hK.out _ _ ⟨cx z 0, cx z 1, cx s 0, cx s 1, cx s 2, cx s 3, cx s 4, cx s 5, cx s 6, cx s 7⟩ (fun hHeld => ?_)
    clear hK K
    refine nrm 14 ?_
    refine on 3 16 (fun K hK => ?_)
    refine gs Try.func96 #[.agg #[.slice aC an.length aD, .slice aP ao.length aQ], .agg #[.int .i64 ae, .int .i64 af, .int .i64 ag, .int .i64 ah, .int .i64 ai, .int .i64 aj, .int .i64 ak, .int .i64 al]] ?_
    with_reducible refine (spec_l2Do.calls k (fun k_ => some k_ = (.slice aC an.length aD : Value).ownBlock) (.slice aC an.length aD) an (fun k_ => some k_ = (.slice aP ao.length aQ : Value).ownBlock) (.slice aP ao.length aQ) ao ae af ag ah ai aj ak al aI aJ aU w _ ?ap ?aq ?ar A6.out).mono ?_
    (case ap => exact bs HB.out)
    (case aq => exact Kd.R_tight rfl O.out)
    (case ar => exact Kd.R_tight rfl T.out)
    rintro e bM ⟨aS, aT, rfl, ac, ad, hb, hkp⟩
    refine ⟨_, rfl, ?_⟩
    replace z := am (blk_kept (bf z.out) hkp (fun hs_ => Or.elim hs_ (fun e_ => (fun e_ => (Kd.R_ne O.out z.out (by decide)) e_) e_) (fun e_ => (fun e_ => (Kd.R_ne T.out z.out (by decide)) e_) e_)))
    replace s := am (blk_kept (bf s.out) hkp (fun hs_ => Or.elim hs_ (fun e_ => (fun e_ => (Kd.R_ne O.out s.out (by decide)) e_) e_) (fun e_ => (fun e_ => (Kd.R_ne T.out s.out (by decide)) e_) e_)))
    replace D := am (blk_kept (bf D.out) hkp (fun hs_ => Or.elim hs_ (fun e_ => (fun e_ => (Kd.R_ne O.out D.out (by decide)) e_) e_) (fun e_ => (fun e_ => (Kd.R_ne T.out D.out (by decide)) e_) e_)))
    replace J := am (blk_kept (bf J.out) hkp (fun hs_ => Or.elim hs_ (fun e_ => (fun e_ => (Kd.R_ne O.out J.out (by decide)) e_) e_) (fun e_ => (fun e_ => (Kd.R_ne T.out J.out (by decide)) e_) e_)))
    have aE := am (Kd.R_mono (ok' := fun k_ => True) ac (fun k_ hk_ => trivial))
    have aF := am (Kd.R_mono (ok' := fun k_ => True) ad (fun k_ hk_ => trivial))
    replace HB := am hb
    clear O T
    (try clear hb)
    (try clear hkp)
    (try clear ac)
    (try clear ad)
    refine hK.out _ _ ⟨cx z 0, cx z 1, cx s 0, cx s 1, cx s 2, cx s 3, cx s 4, cx s 5, cx s 6, cx s 7⟩ (fun hHeld => ?_)
    clear hK K
    refine nrm 16 ?_
    refine pu 4 12 ?_
    refine pu 5 17 ?_
    refine pu 6 18 ?_
    exact norm_ (by simp only [putAll, Act.put, List.setIfInBounds_toArray, List.set_cons_zero, List.set_cons_succ]) (hCont (.slice aC an.length aD, .slice aP ao.length aQ, aS, aT, G) _ ⟨hHeld, (rl aE.out), (rl aF.out), (bf z.out), (bf s.out), (bf D.out), (bf J.out), aV.out, aW.out, aG.out, aL.out, L.out, aM.out, aN.out, aO.out, (bs HB.out)⟩)
  rintro ⟨bJ, bK, aS, aT, G⟩ ab ⟨hS_, bN, bO, bP, bQ, bR, bS, bT, bU, bV, bW, bX, bY, bZ, b0, b1⟩
  have b2 : Aside0 (Kd.R k36 36 ab w.heap.size (fun _ => True) aS aI) := ⟨bN⟩
  have b3 : Aside0 (Kd.R k56 56 ab w.heap.size (fun _ => True) aT aJ) := ⟨bO⟩
  have b4 : Aside0 (ab.heap[aB]? = some (.cells #[.slice ax Z.length ay, .slice az aa.length aA] 34 (0, 0))) := ⟨bP⟩
  have b5 : Aside0 (ab.heap[I]? = some (.cells #[.int .i64 ae, .int .i64 af, .int .i64 ag, .int .i64 ah, .int .i64 ai, .int .i64 aj, .int .i64 ak, .int .i64 al] 58 (0, 0))) := ⟨bQ⟩
  have b6 : Aside0 (ab.heap[aH]? = some (.cells #[.slice none 0 0, .slice none 0 0] 34 (0, 0))) := ⟨bR⟩
  have b7 : Aside0 (ab.heap[G]? = some (.cells #[.slice none 0 0, .slice none 0 0] 34 (0, 0))) := ⟨bS⟩
  have b8 : Ge w G := ⟨bT⟩
  have b9 : Ge w G := ⟨bU⟩
  have ce : Nq aB G := ⟨bV⟩
  have cf : Nq G aB := ⟨bW⟩
  have cg : Nq I G := ⟨bX⟩
  have ch : Nq G I := ⟨bY⟩
  have ci : Nq aH G := ⟨bZ⟩
  have cj : Nq G aH := ⟨b0⟩
  have ck : Aside0 (Below w.heap.size w ab) := ⟨b1⟩
  clear z
  clear s
  clear D
  clear HB
  clear bN bO bP bQ bR bS bT bU bV bW bX bY bZ b0 b1
  have aE := b2
  have aF := b3
  have z := b4
  have s := b5
  have D := b6
  have J := b7
  have aV := b8
  have aW := b9
  have aG := ce
  have aL := cf
  have L := cg
  have aM := ch
  have aN := ci
  have aO := cj
  have HB := ck
  clear b2 b3 b4 b5 b6 b7 b8 b9 ce cf cg ch ci cj ck
  have hHeld : ab.cell? ⟨aB, 0, none⟩ = some (.slice ax Z.length ay) ∧ ab.cell? ⟨aB, 1, none⟩ = some (.slice az aa.length aA) ∧ ab.cell? ⟨I, 0, none⟩ = some (.int .i64 ae) ∧ ab.cell? ⟨I, 1, none⟩ = some (.int .i64 af) ∧ ab.cell? ⟨I, 2, none⟩ = some (.int .i64 ag) ∧ ab.cell? ⟨I, 3, none⟩ = some (.int .i64 ah) ∧ ab.cell? ⟨I, 4, none⟩ = some (.int .i64 ai) ∧ ab.cell? ⟨I, 5, none⟩ = some (.int .i64 aj) ∧ ab.cell? ⟨I, 6, none⟩ = some (.int .i64 ak) ∧ ab.cell? ⟨I, 7, none⟩ = some (.int .i64 al) := hS_
  obtain ⟨cl, bo, cm⟩ := Kd.R_slice aE.out
  (first | subst cm | (injection cm with X au Y; have av := X.symm; have aw := Y.symm; clear X au Y; subst av; subst aw))
  obtain ⟨cn, br, co⟩ := Kd.R_slice aF.out
  (first | subst co | (injection co with X au Y; have av := X.symm; have aw := Y.symm; clear X au Y; subst av; subst aw))
  refine norm_ (a' := ?_) ?_ ?_
  rotate_left
  ·simp only [putAll, Act.put, List.setIfInBounds_toArray, List.set_cons_zero, List.set_cons_succ]
   rfl
  refine on0 8 (fun K hK => ?_)
  have cW : ab.cell? ⟨G, 0, none⟩ = some (.slice none 0 0) := cx J 0
  have cX := blk_frozen J.out 0
  have cY := aG.out
  have cZ := L.out
  have c0 := aN.out
  have c1 := aL.out
  have c5 := aM.out
  have c7 := aO.out
  have c8 : ab.cell? ⟨G, 1, none⟩ = some (.slice none 0 0) := cx J 1
  have c9 := blk_frozen J.out 1
  have da := aG.out
  have db := L.out
  have dc := aN.out
  have dd := aL.out
  have de := aM.out
  have df := aO.out
  refine sk ?_
  refine hK.out _ _ ⟨((cell_far (p := ⟨G, _, none⟩) aG.out _).trans (((cell_far (p := ⟨G, _, none⟩) aG.out _).trans (hHeld.1)))), ((cell_far (p := ⟨G, _, none⟩) aG.out _).trans (((cell_far (p := ⟨G, _, none⟩) aG.out _).trans (hHeld.2.1)))), ((cell_far (p := ⟨G, _, none⟩) L.out _).trans (((cell_far (p := ⟨G, _, none⟩) L.out _).trans (hHeld.2.2.1)))), ((cell_far (p := ⟨G, _, none⟩) L.out _).trans (((cell_far (p := ⟨G, _, none⟩) L.out _).trans (hHeld.2.2.2.1)))), ((cell_far (p := ⟨G, _, none⟩) L.out _).trans (((cell_far (p := ⟨G, _, none⟩) L.out _).trans (hHeld.2.2.2.2.1)))), ((cell_far (p := ⟨G, _, none⟩) L.out _).trans (((cell_far (p := ⟨G, _, none⟩) L.out _).trans (hHeld.2.2.2.2.2.1)))), ((cell_far (p := ⟨G, _, none⟩) L.out _).trans (((cell_far (p := ⟨G, _, none⟩) L.out _).trans (hHeld.2.2.2.2.2.2.1)))), ((cell_far (p := ⟨G, _, none⟩) L.out _).trans (((cell_far (p := ⟨G, _, none⟩) L.out _).trans (hHeld.2.2.2.2.2.2.2.1)))), ((cell_far (p := ⟨G, _, none⟩) L.out _).trans (((cell_far (p := ⟨G, _, none⟩) L.out _).trans (hHeld.2.2.2.2.2.2.2.2.1)))), ((cell_far (p := ⟨G, _, none⟩) L.out _).trans (((cell_far (p := ⟨G, _, none⟩) L.out _).trans (hHeld.2.2.2.2.2.2.2.2.2))))⟩ (fun hHeld => ?_)
  clear hK K
  refine pu 9 7 ?_
  refine dn ?_
  have dg := aL.out
  have dh := aG.out
  have di := aM.out
  have dj := L.out
  have dk := aO.out
  have dl := aN.out
  obtain ⟨dm, dp⟩ := bc2 (w := ab) J.out
  have dq := blk_frozen J.out
  try go_wp2_with (first | ((with_reducible refine gc 97 rfl ?_); refine gl 20 Try.func97 #[.agg #[.slice cl aI.length bo, .slice cn aJ.length br]] ?_; (with_reducible refine (spec_l2Copy.calls _ _ aI _ _ aJ bG bH _ ?ap ?aq ?ar ?aK A7.out).mono ?_); (case ap => refine (Kd.R_reads' (e := 36) (base := w.heap.size) (ok := fun k_ => True) (n := aI.length) (c := bo) ?_).2.2; exact (rt aE.out J.out (by decide))); (case aq => exact cc aE); (case ar => refine (Kd.R_reads' (e := 56) (base := w.heap.size) (ok := fun k_ => True) (n := aJ.length) (c := br) ?_).2.2; exact (rt aF.out J.out (by decide))); (case aK => exact cc aF); rintro e cE ⟨dr, dt, rfl, ac, ad, hb⟩; refine ⟨_, rfl, ?_⟩; have cp := am (Kd.R_lower (Kd.R_new' ac (Kd.R_lt (rt aE.out J.out (by decide)))) (below_size (bs HB.out))); replace aE := am (Kd.R_elder' (rt aE.out J.out (by decide)) (Kd.R_base ac) hb); have ct := am (Kd.R_lower (Kd.R_new' ad (Kd.R_lt (rt aF.out J.out (by decide)))) (below_size (bs HB.out))); replace aF := am (Kd.R_elder' (rt aF.out J.out (by decide)) (Kd.R_base ad) hb); replace z := am (blk_below (g := aB) (o := .cells #[.slice ax Z.length ay, .slice az aa.length aA] 34 (0, 0)) (bf z.out) hb); replace s := am (blk_below (g := I) (o := .cells #[.int .i64 ae, .int .i64 af, .int .i64 ag, .int .i64 ah, .int .i64 ai, .int .i64 aj, .int .i64 ak, .int .i64 al] 58 (0, 0)) (bf s.out) hb); replace D := am (blk_below (g := aH) (o := .cells #[.slice none 0 0, .slice none 0 0] 34 (0, 0)) (bf D.out) hb); replace J := bq #[.slice cl aI.length bo, .slice cn aJ.length br] J hb; replace HB := hs HB hb; (try clear hb); (try clear hb2); (try clear hk); (try clear hi); (try clear ac); (try clear ad); obtain ⟨cF, cG, cH⟩ := Kd.R_slice cp.out; subst cH; have du := bn.out; have dv := bm.out; obtain ⟨dw, dx⟩ := bc2 (w := cE) D.out; have dy := blk_frozen D.out; obtain ⟨cI, cJ, cK⟩ := Kd.R_slice ct.out; subst cK))
  refine bodyPost_ret (results_ct rfl _ _ aH 34 #[.slice cF bG.length cG, .slice cI bH.length cJ] (0, 0) _ rfl (bp D.out rfl) Try.underlying34 rfl (by kernel_rfl)) rfl ?_
  exact ⟨_, _, eqr, Kd.R_mono (rt cp.out D.out (by decide)) (fun _ hk => trivial), Kd.R_mono (rt ct.out D.out (by decide)) (fun _ hk => trivial), bs HB.out⟩
 ·replace c4 := Bool.eq_false_iff.mpr c4
  subst c4
  have H1 : (some (([] : List (S36)), ([] : List (S56)), 1)) = some (r1, r2, r3) := by rw [if_neg (show ¬ (false = true) by decide)] at H; exact H
  clear H
  have H := H1
  clear H1
  simp only [Option.some.injEq, Prod.mk.injEq] at H
  obtain ⟨rfl, rfl, rfl⟩ := H
  go_enter Try.func51, Try.ntmps51
  go_wp2_with (first | ((with_reducible refine gd 2 rfl ?_); refine bx 2 (cs := #[.slice ax Z.length ay, .slice az aa.length aA]) (t := 34) ?_; intro aB hg dz hbox hb; have z := am hbox; have cv := gwb HB hg; replace HB := hs HB hb; clear hb hbox hg) | ((with_reducible refine gd 3 rfl ?_); refine bx 3 (cs := #[.int .i64 ae, .int .i64 af, .int .i64 ag, .int .i64 ah, .int .i64 ai, .int .i64 aj, .int .i64 ak, .int .i64 al]) (t := 58) ?_; intro I hg dA hbox hb; have s := am hbox; have cy := gwb HB hg; replace HB := hs HB hb; have bi := nq z hg; have bj := nq' z hg; replace z := bb z hb rfl; clear hb hbox hg) | ((with_reducible refine gd 4 rfl ?_); refine bx 4 (cs := #[.slice none 0 0, .slice none 0 0]) (t := 34) ?_; intro aH hg cL hbox hb; have D := am hbox; have cA := gwb HB hg; replace HB := hs HB hb; have bk := nq z hg; have bl := nq' z hg; replace z := bb z hb rfl; have bm := nq s hg; have bn := nq' s hg; replace s := bb s hb rfl; clear hb hbox hg; have dB := bi.out; have dC := bj.out; have dD := bk.out; have dE := bl.out; obtain ⟨dF, dG⟩ := bc2 (w := cL) z.out; have dH := blk_frozen z.out) | ((with_reducible refine gc 33 rfl ?_); refine gl 9 Try.func33 #[.agg #[.slice ax Z.length ay, .slice az aa.length aA]] ?_; (with_reducible refine (spec_GraphOk.calls k _ _ Z _ _ aa false _ ?ap ?aq ?ar ?aK A3.out).mono ?_); (case ap => exact Kd.C_below aY.out (bs HB.out)); (case aq => exact aZ.out); (case ar => exact Kd.C_below ba.out (bs HB.out)); (case aK => exact bc.out); rintro e cM ⟨rfl, hb⟩; refine ⟨_, rfl, ?_⟩; replace z := bb z hb rfl; replace s := bb s hb rfl; replace D := bb D hb rfl; replace HB := hs HB hb; (try clear hb); have dI := bn.out; have dJ := bm.out; obtain ⟨dK, dL⟩ := bc2 (w := cM) D.out; have dM := blk_frozen D.out))
  refine bodyPost_ret (results_ct rfl _ _ aH 34 #[.slice none 0 0, .slice none 0 0] (0, 0) _ rfl (bp D.out rfl) Try.underlying34 rfl (by kernel_rfl)) rfl ?_
  exact ⟨_, _, eqr, by first | exact Kd.R_nil _ _ _ _ _ | exact Kd.N_nil _ _ _ _ _ | exact Kd.V_nil _ _ _ _ _ | exact Kd.Q_nil _ _ _ _ _ | exact Kd.S_nil _ _ _ _ _, by first | exact Kd.R_nil _ _ _ _ _ | exact Kd.N_nil _ _ _ _ _ | exact Kd.V_nil _ _ _ _ _ | exact Kd.Q_nil _ _ _ _ _ | exact Kd.S_nil _ _ _ _ _, bs HB.out⟩

/-! ### laws_toOp: function 52 -/
def laws_toOp.f (z : Int) (D : Int) (G : Int) (I : Int) (J : Int) (L : Int) (O : Int) (T : Int) : Option (Int × Int × Int × Int × Int × Int × Int × Int) := (laws_toNode.f D G).bind fun y => ((laws_toEdge.f I J L O T).bind fun s => (some (z, y.1, y.2, s.1, s.2.1, s.2.2.1, s.2.2.2.1, s.2.2.2.2)))
theorem laws_toOp.calls (G : Int) (I : Int) (J : Int) (L : Int) (O : Int) (T : Int) (X : Int) (Y : Int) (r1 : Int) (r2 : Int) (r3 : Int) (r4 : Int) (r5 : Int) (r6 : Int) (r7 : Int) (r8 : Int) (w : World) (h : laws_toOp.f G I J L O T X Y = some (r1, r2, r3, r4, r5, r6, r7, r8)) :
  Calls Try.prog 52 #[.agg #[.int .i64 G, .int .i64 I, .int .i64 J, .int .i64 L, .int .i64 O, .int .i64 T, .int .i64 X, .int .i64 Y]] w fun e w' => e = .returned (.agg #[.int .i64 r1, .int .i64 r2, .int .i64 r3, .int .i64 r4, .int .i64 r5, .int .i64 r6, .int .i64 r7, .int .i64 r8]) ∧ Below w.heap.size w w' := by
 have hu72 := Try.underlying72
 have hu58 := Try.underlying58
 have hu27 := Try.underlying27
 have hu36 := Try.underlying36
 have hu70 := Try.underlying70
 have hu56 := Try.underlying56
 have HB := am (Below.refl w.heap.size w)
 have H := h; unfold laws_toOp.f at H
 clear h
 replace H := Option.bind_eq_some_iff.mp H
 obtain ⟨⟨Z, aa⟩, ac, H⟩ := H
 try dsimp -simprocs only at H
 have A2 := am ac
 clear ac
 replace H := Option.bind_eq_some_iff.mp H
 obtain ⟨⟨ad, ae, af, ag, ah⟩, ai, H⟩ := H
 try dsimp -simprocs only at H
 have A3 := am ai
 clear ai
 simp only [Option.some.injEq, Prod.mk.injEq] at H
 obtain ⟨rfl, rfl, rfl, rfl, rfl, rfl, rfl, rfl⟩ := H
 go_enter Try.func52, Try.ntmps52
 go_wp2_with (first | ((with_reducible refine gd 1 rfl ?_); refine bx 1 (cs := #[.int .i64 G, .int .i64 I, .int .i64 J, .int .i64 L, .int .i64 O, .int .i64 T, .int .i64 X, .int .i64 Y]) (t := 72) ?_; intro aj hg w4 hbox hb; have y := am hbox; have av := gwb HB hg; replace HB := hs HB hb; clear hb hbox hg) | ((with_reducible refine gd 2 rfl ?_); refine bx 2 (cs := #[.int .i64 0, .int .i64 0, .int .i64 0, .int .i64 0, .int .i64 0, .int .i64 0, .int .i64 0, .int .i64 0]) (t := 58) ?_; intro ab hg w5 hbox hb; have z := am hbox; have aw := gwb HB hg; replace HB := hs HB hb; have an := nq y hg; have ao := nq' y hg; replace y := bb y hb rfl; clear hb hbox hg) | ((with_reducible refine gd 3 rfl ?_); refine bx 3 (cs := #[.int .i64 0, .int .i64 0, .int .i64 0, .int .i64 0, .int .i64 0, .int .i64 0, .int .i64 0, .int .i64 0]) (t := 58) ?_; intro ax hg w6 hbox hb; have D := am hbox; have ay := gwb HB hg; replace HB := hs HB hb; have ap := nq y hg; have aq := nq' y hg; replace y := bb y hb rfl; have ar := nq z hg; have au := nq' z hg; replace z := bb z hb rfl; clear hb hbox hg; have az := an.out; have aA := ao.out; have aB := ap.out; have aC := aq.out; obtain ⟨aD, aE, aF, aG, aH, aI, aJ, aK⟩ := bc8 (w := w6) y.out; have aL := blk_frozen y.out; have aM := au.out; have aN := ar.out; obtain ⟨aO, aP, aQ, aR, aS, aT, aU, aV⟩ := bc8 (w := w6) D.out; have aW := blk_frozen D.out) | ((with_reducible refine gc 19 rfl ?_); refine gl 9 Try.func19 #[.agg #[.int .i64 I, .int .i64 J]] ?_; (with_reducible refine (laws_toNode.calls I J Z aa _ A2.out).mono ?_); rintro e ak ⟨rfl, hb⟩; refine ⟨_, rfl, ?_⟩; replace y := am (blk_below (g := aj) (o := .cells #[.int .i64 G, .int .i64 I, .int .i64 J, .int .i64 L, .int .i64 O, .int .i64 T, .int .i64 X, .int .i64 Y] 72 (0, 0)) (bf y.out) hb); replace z := am (blk_below (g := ab) (o := .cells #[.int .i64 0, .int .i64 0, .int .i64 0, .int .i64 0, .int .i64 0, .int .i64 0, .int .i64 0, .int .i64 0] 58 (0, 0)) (bf z.out) hb); replace D := bq #[.int .i64 G, .int .i64 0, .int .i64 0, .int .i64 0, .int .i64 0, .int .i64 0, .int .i64 0, .int .i64 0] D hb; replace HB := hs HB hb; (try clear hb); obtain ⟨aX, aY, aZ, ba, bc, be, bg, bh⟩ := bc8 (w := ak) D.out; have bi := blk_frozen D.out; obtain ⟨bj, bk, bl, bm, bn, bo, br, bt⟩ := bc8 (w := ak) y.out; have bu := blk_frozen y.out) | ((with_reducible refine gc 98 rfl ?_); refine gl 13 Try.func98 #[.agg #[.int .i64 L, .int .i64 O, .int .i64 T, .int .i64 X, .int .i64 Y]] ?_; (with_reducible refine (laws_toEdge.calls L O T X Y ad ae af ag ah _ A3.out).mono ?_); rintro e al ⟨rfl, hb⟩; refine ⟨_, rfl, ?_⟩; replace y := am (blk_below (g := aj) (o := .cells #[.int .i64 G, .int .i64 I, .int .i64 J, .int .i64 L, .int .i64 O, .int .i64 T, .int .i64 X, .int .i64 Y] 72 (0, 0)) (bf y.out) hb); replace z := am (blk_below (g := ab) (o := .cells #[.int .i64 0, .int .i64 0, .int .i64 0, .int .i64 0, .int .i64 0, .int .i64 0, .int .i64 0, .int .i64 0] 58 (0, 0)) (bf z.out) hb); replace D := bq #[.int .i64 G, .int .i64 Z, .int .i64 aa, .int .i64 0, .int .i64 0, .int .i64 0, .int .i64 0, .int .i64 0] D hb; replace HB := hs HB hb; (try clear hb); obtain ⟨bv, bw, bz, bA, bB, bC, bD, bE⟩ := bc8 (w := al) D.out; have bF := blk_frozen D.out; obtain ⟨bG, bH, bI, bJ, bK, bL, bM, bN⟩ := bc8 (w := al) z.out; have bO := blk_frozen z.out))
 refine bodyPost_ret (results_cell_row rfl _ _ ab 58 #[.int .i64 G, .int .i64 Z, .int .i64 aa, .int .i64 ad, .int .i64 ae, .int .i64 af, .int .i64 ag, .int .i64 ah] (0, 0) _ rfl (bp z.out rfl) Try.underlying58 rfl (by kernel_rfl)) rfl ?_
 exact ⟨eqr, bs HB.out⟩

/-! ### impl_LabelOk: function 46 -/
def impl_LabelOk.f (s : Int) : Option (Bool) := if 0 ≤ s then (some (decide (s ≤ 7))) else (some false)
theorem impl_LabelOk.calls (s : Int) (r : Bool) (w : World) (h : impl_LabelOk.f s = some r) :
  Calls Try.prog 46 #[.int .i64 s] w fun e w' => e = .returned (.bool r) ∧ Drawn0 w w' := by
 have H := h; unfold impl_LabelOk.f at H
 clear h
 by_cases c2 : 0 ≤ s
 ·rw [if_pos c2] at H
  have y : decide (0 ≤ s) = true := decide_eq_true c2
  clear c2
  obtain rfl := Option.some.inj H
  go_enter Try.func46, Try.ntmps46
  go_wp2
  go_ret
  exact ⟨eqs, drs⟩
 ·rw [if_neg c2] at H
  have y : decide (0 ≤ s) = false := decide_eq_false c2
  clear c2
  obtain rfl := Option.some.inj H
  go_enter Try.func46, Try.ntmps46
  go_wp2
  go_ret
  exact ⟨eqs, drs⟩

/-! ### impl_letters_under: function 95 -/
def impl_letters_under.f (s : Int) (y : Int) : Option (Bool) := some ((Go.bits .andNot .u8 s y) == 0)
theorem impl_letters_under.calls (s : Int) (y : Int) (r : Bool) (w : World) (h : impl_letters_under.f s y = some r) :
  Calls Try.prog 95 #[.int .u8 s, .int .u8 y] w fun e w' => e = .returned (.bool r) ∧ Drawn0 w w' := by
 have H := h; unfold impl_letters_under.f at H
 clear h
 obtain rfl := Option.some.inj H
 go_enter Try.func95, Try.ntmps95
 go_wp2
 go_ret
 exact ⟨eqs, drs⟩

/-! ### impl_LabelUnder: function 47 -/
def impl_LabelUnder.f (s : Int) (y : Int) : Option (Bool) := (impl_LabelOk.f s).bind fun z => (if z = true then ((impl_LabelOk.f y).bind fun D => (if D = true then ((impl_letters_under.f ((s) % 256) ((y) % 256)).bind fun G => (some G)) else (some false))) else (some false))
theorem impl_LabelUnder.calls (s : Int) (y : Int) (r : Bool) (w : World) (h : impl_LabelUnder.f s y = some r) :
  Calls Try.prog 47 #[.int .i64 s, .int .i64 y] w fun e w' => e = .returned (.bool r) ∧ Drawn0 w w' := by
 have H := h; unfold impl_LabelUnder.f at H
 clear h
 replace H := Option.bind_eq_some_iff.mp H
 obtain ⟨Z, O, H⟩ := H
 try dsimp -simprocs only at H
 have J := am O
 clear O
 by_cases G : Z = true
 ·subst G
  replace H : ((impl_LabelOk.f y).bind fun L => (if L = true then ((impl_letters_under.f ((s) % 256) ((y) % 256)).bind fun z => (some z)) else (some false))) = some r := by rw [if_pos rfl] at H; exact H
  replace H := Option.bind_eq_some_iff.mp H
  obtain ⟨L, T, H⟩ := H
  try dsimp -simprocs only at H
  have X := am T
  clear T
  by_cases I : L = true
  ·subst I
   replace H : ((impl_letters_under.f ((s) % 256) ((y) % 256)).bind fun z => (some z)) = some r := by rw [if_pos rfl] at H; exact H
   replace H := Option.bind_eq_some_iff.mp H
   obtain ⟨z, Y, H⟩ := H
   try dsimp -simprocs only at H
   have A7 := am Y
   clear Y
   obtain rfl := Option.some.inj H
   go_enter Try.func47, Try.ntmps47
   go_wp2_with (first | ((with_reducible refine gc 46 rfl ?_); refine gl 6 Try.func46 #[.int .i64 s] ?_; (with_reducible refine (impl_LabelOk.calls s true _ J.out).mono ?_); rintro e w' ⟨rfl, ⟨nd, rfl⟩⟩; refine ⟨_, rfl, ?_⟩) | (go_at_call 46; (with_reducible refine (impl_LabelOk.calls y true _ X.out).mono ?_); rintro e w' ⟨rfl, ⟨nd, rfl⟩⟩) | (go_at_call 95; (with_reducible refine (impl_letters_under.calls ((s) % 256) ((y) % 256) z _ A7.out).mono ?_); rintro e w' ⟨rfl, ⟨nd, rfl⟩⟩))
   go_ret
   exact ⟨eqs, drs⟩
  ·replace I := Bool.eq_false_iff.mpr I
   subst I
   have H1 : (some false) = some r := by rw [if_neg (show ¬ (false = true) by decide)] at H; exact H
   clear H
   have H := H1
   clear H1
   obtain rfl := Option.some.inj H
   go_enter Try.func47, Try.ntmps47
   go_wp2_with (first | ((with_reducible refine gc 46 rfl ?_); refine gl 6 Try.func46 #[.int .i64 s] ?_; (with_reducible refine (impl_LabelOk.calls s true _ J.out).mono ?_); rintro e w' ⟨rfl, ⟨nd, rfl⟩⟩; refine ⟨_, rfl, ?_⟩) | (go_at_call 46; (with_reducible refine (impl_LabelOk.calls y false _ X.out).mono ?_); rintro e w' ⟨rfl, ⟨nd, rfl⟩⟩))
   go_ret
   exact ⟨eqs, drs⟩
 ·replace G := Bool.eq_false_iff.mpr G
  subst G
  have H1 : (some false) = some r := by rw [if_neg (show ¬ (false = true) by decide)] at H; exact H
  clear H
  have H := H1
  clear H1
  obtain rfl := Option.some.inj H
  go_enter Try.func47, Try.ntmps47
  go_wp2_with (first | ((with_reducible refine gc 46 rfl ?_); refine gl 6 Try.func46 #[.int .i64 s] ?_; (with_reducible refine (impl_LabelOk.calls s false _ J.out).mono ?_); rintro e w' ⟨rfl, ⟨nd, rfl⟩⟩; refine ⟨_, rfl, ?_⟩))
  go_ret
  exact ⟨eqs, drs⟩

/-! ### impl_NodeOk: function 92 -/
def impl_NodeOk.f (y : Int) (s : Int) : Option (Bool) := (impl_LabelOk.f y).bind fun z => (if z = true then (if 0 ≤ s then (some (decide (s ≤ 40))) else (some false)) else (some false))
theorem impl_NodeOk.calls (s : Int) (y : Int) (r : Bool) (w : World) (h : impl_NodeOk.f s y = some r) :
  Calls Try.prog 92 #[.agg #[.int .i64 s, .int .i64 y]] w fun e w' => e = .returned (.bool r) ∧ Below w.heap.size w w' := by
 have hu36 := Try.underlying36
 have HB := am (Below.refl w.heap.size w)
 have H := h; unfold impl_NodeOk.f at H
 clear h
 replace H := Option.bind_eq_some_iff.mp H
 obtain ⟨X, L, H⟩ := H
 try dsimp -simprocs only at H
 have J := am L
 clear L
 by_cases I : X = true
 ·subst I
  replace H : (if 0 ≤ y then (some (decide (y ≤ 40))) else (some false)) = some r := by rw [if_pos rfl] at H; exact H
  by_cases G : 0 ≤ y
  ·rw [if_pos G] at H
   have Y : decide (0 ≤ y) = true := decide_eq_true G
   clear G
   obtain rfl := Option.some.inj H
   go_enter Try.func92, Try.ntmps92
   go_wp2_with (first | ((with_reducible refine gd 1 rfl ?_); refine bx 1 (cs := #[.int .i64 s, .int .i64 y]) (t := 36) ?_; intro O hg Z hbox hb; have D := am hbox; have T := gwb HB hg; replace HB := hs HB hb; clear hb hbox hg; obtain ⟨aa, ab⟩ := bc2 (w := Z) D.out; have ac := blk_frozen D.out) | ((with_reducible refine gc 46 rfl ?_); refine gl 5 Try.func46 #[.int .i64 s] ?_; (with_reducible refine (impl_LabelOk.calls s true _ J.out).mono ?_); rintro e w' ⟨rfl, ⟨nd, rfl⟩⟩; refine ⟨_, rfl, ?_⟩))
   go_ret
   exact ⟨eqr, bs HB.out⟩
  ·rw [if_neg G] at H
   have Y : decide (0 ≤ y) = false := decide_eq_false G
   clear G
   obtain rfl := Option.some.inj H
   go_enter Try.func92, Try.ntmps92
   go_wp2_with (first | ((with_reducible refine gd 1 rfl ?_); refine bx 1 (cs := #[.int .i64 s, .int .i64 y]) (t := 36) ?_; intro O hg w7 hbox hb; have D := am hbox; have T := gwb HB hg; replace HB := hs HB hb; clear hb hbox hg; obtain ⟨ad, ae⟩ := bc2 (w := w7) D.out; have af := blk_frozen D.out) | ((with_reducible refine gc 46 rfl ?_); refine gl 5 Try.func46 #[.int .i64 s] ?_; (with_reducible refine (impl_LabelOk.calls s true _ J.out).mono ?_); rintro e w' ⟨rfl, ⟨nd, rfl⟩⟩; refine ⟨_, rfl, ?_⟩))
   go_ret
   exact ⟨eqr, bs HB.out⟩
 ·replace I := Bool.eq_false_iff.mpr I
  subst I
  have H1 : (some false) = some r := by rw [if_neg (show ¬ (false = true) by decide)] at H; exact H
  clear H
  have H := H1
  clear H1
  obtain rfl := Option.some.inj H
  go_enter Try.func92, Try.ntmps92
  go_wp2_with (first | ((with_reducible refine gd 1 rfl ?_); refine bx 1 (cs := #[.int .i64 s, .int .i64 y]) (t := 36) ?_; intro O hg w9 hbox hb; have D := am hbox; have T := gwb HB hg; replace HB := hs HB hb; clear hb hbox hg; obtain ⟨ag, ah⟩ := bc2 (w := w9) D.out; have ai := blk_frozen D.out) | ((with_reducible refine gc 46 rfl ?_); refine gl 5 Try.func46 #[.int .i64 s] ?_; (with_reducible refine (impl_LabelOk.calls s false _ J.out).mono ?_); rintro e w' ⟨rfl, ⟨nd, rfl⟩⟩; refine ⟨_, rfl, ?_⟩))
  go_ret
  exact ⟨eqr, bs HB.out⟩

end Go.Proofs.Ytohmemckdogljaa.QFnExactGraphDo
