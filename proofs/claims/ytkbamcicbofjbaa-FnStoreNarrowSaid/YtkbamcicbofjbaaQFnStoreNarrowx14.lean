/- Contracts of the Go functions that this law reaches: each does what its plain Lean function says. No condition. -/
import Derived.Test.YtkbamcicbofjbaaQFnStoreNarrowx0
import Derived.Test.YtkbamcicbofjbaaQFnStoreNarrowx4
import Derived.Test.YtkbamcicbofjbaaQFnStoreNarrowx6
import Derived.Test.YtkbamcicbofjbaaQFnStoreNarrowx9
import Derived.Test.YtkbamcicbofjbaaQFnStoreNarrowx10
import Derived.Test.YtkbamcicbofjbaaQFnStoreNarrowx11
import Derived.Test.YtkbamcicbofjbaaQFnStoreNarrowx12
import Derived.Test.YtkbamcicbofjbaaQFnStoreNarrowx13
namespace Go.Proofs.Ytkbamcicbofjbaa.QFnStoreNarrow
open Go.RowKit Go.Proofs.YtkbamcicbofjbaaW.PrintWords Go.Proofs.YtkbamcicbofjbaaW.PrintLast Go.Proofs.YtkbamcicbofjbaaW.PrintMore Go.Proofs.Ytkbamcicbofjbaa.Bl
attribute [local go_sem] max2_int min2_int max_two min_two max_three min_three max_four min_four   -- for this text's walks alone
set_option linter.unusedVariables false
set_option linter.unusedSimpArgs false
set_option maxHeartbeats 8000000
set_option maxRecDepth 100000

/-! ### spec_l2Do: function 22 -/
def spec_l2Do.f (k : Nat) (s : List (S55)) (y : List (S57)) (D : Int) (G : Int) (I : Int) (J : Int) (L : Int) (O : Int) (T : Int) (X : Int) : Option ((List (S55)) × (List (S57)) × Int) := (spec_OpLabel.f k D G I J L O T X).bind fun ae => (if ae < 0 then (some (s, y, 1)) else ((spec_l2Ends.f k s y D G I J L O T X).bind fun z => (if z = 0 then (if D = 1 then ((spec_l2Copy.f s y).bind fun Y => ((spec_l2PutNode.f k Y.1 Y.2 G I).bind fun Z => (some (Z.1, Z.2, z)))) else (if D = 2 then ((spec_l2Copy.f s y).bind fun aa => ((spec_l2PutEdge.f k aa.1 aa.2 J L O T X).bind fun ab => (some (ab.1, ab.2, z)))) else (if D = 3 then ((spec_l2Cut.f k s y J L O T X).bind fun ac => (some (ac.1, ac.2, z))) else ((spec_l2Off.f k s y G I).bind fun ad => (some (ad.1, ad.2, z)))))) else (some (s, y, z)))))
def spec_l2Do.T8 : Bool × List (List Nat × List Nat) := (true, [([], []), ([0], [0]), ([], []), ([2], [2]), ([1, 3, 1], [1, 3]), ([], []), ([4, 4, 0, 1, 2, 3, 4], [4]), ([5, 6, 0, 1, 2, 3, 4, 5, 6], [5])])
def spec_l2Do.B8 : List Nat := [0, 1, 0, 4, 15, 0, 31, 127]
theorem spec_l2Do.tab8 : rtab .any (opsOf Try.f22 8) = spec_l2Do.T8 := by kernel_rfl
theorem spec_l2Do.bits8 : waitsOk spec_l2Do.T8.2 spec_l2Do.B8 = true := by kernel_rfl
def spec_l2Do.T10 : Bool × List (List Nat × List Nat) := (true, [([], []), ([0], [0]), ([], []), ([2], [2]), ([1, 3, 1], [1, 3]), ([], []), ([4, 4, 0, 1, 2, 3, 4], [4]), ([5, 6, 0, 1, 2, 3, 4, 5, 6], [5])])
def spec_l2Do.B10 : List Nat := [0, 1, 0, 4, 15, 0, 31, 127]
theorem spec_l2Do.tab10 : rtab .any (opsOf Try.f22 10) = spec_l2Do.T10 := by kernel_rfl
theorem spec_l2Do.bits10 : waitsOk spec_l2Do.T10.2 spec_l2Do.B10 = true := by kernel_rfl
theorem spec_l2Do.calls (k : Nat) (L : Nat → Prop) (bm : Value) (af : List (S55)) (O : Nat → Prop) (bn : Value) (ag : List (S57)) (T : Int) (Y : Int) (Z : Int) (aa : Int) (ab : Int) (ac : Int) (ad : Int) (ae : Int) (r1 : List (S55)) (r2 : List (S57)) (r3 : Int) (w0 w : World) (hB : Below w0.heap.size w0 w) (cH : Kd.R k55 55 w w0.heap.size L bm af) (cI : Kd.R k57 57 w w0.heap.size O bn ag) (h : spec_l2Do.f k af ag T Y Z aa ab ac ad ae = some (r1, r2, r3)) :
  Calls Try.prog 22 #[.agg #[bm, bn], .agg #[.int .i64 T, .int .i64 Y, .int .i64 Z, .int .i64 aa, .int .i64 ab, .int .i64 ac, .int .i64 ad, .int .i64 ae]] w fun e w' => ∃ bJ bK : Value, e = .returned (.tuple #[.agg #[bJ, bK], .int .i64 r3]) ∧ Kd.R k55 55 w' w0.heap.size (fun k_ => ((L k_ ∨ O k_) ∨ w.heap.size ≤ k_)) bJ r1 ∧ Kd.R k57 57 w' w0.heap.size (fun k_ => ((L k_ ∨ O k_) ∨ w.heap.size ≤ k_)) bK r2 ∧ Below w0.heap.size w0 w' ∧ Kept w w' (fun k_ => L k_ ∨ O k_) := by
 have hu38 := Try.underlying38
 have hu59 := Try.underlying59
 have hu55 := Try.underlying55
 have hu57 := Try.underlying57
 have D := am (show Kd.R k55 55 w w0.heap.size (fun k_ => ((L k_ ∨ O k_) ∨ w.heap.size ≤ k_)) bm af from Kd.R_mono cH (fun k_ hk => (.inl (.inl hk))))
 have G := am (show Kd.R k57 57 w w0.heap.size (fun k_ => ((L k_ ∨ O k_) ∨ w.heap.size ≤ k_)) bn ag from Kd.R_mono cI (fun k_ hk => (.inl (.inr hk))))
 have HK := am (Kept.refl w (fun k_ => L k_ ∨ O k_))
 have dN := am hB.size
 have HB := am hB
 clear hB
 have H := h; unfold spec_l2Do.f at H
 clear h
 replace H := Option.bind_eq_some_iff.mp H
 obtain ⟨aH, bL, H⟩ := H
 try dsimp -simprocs only at H
 have A3 := am bL
 clear bL
 by_cases c4 : aH < 0
 ·rw [if_pos c4] at H
  have cJ : decide (aH < 0) = true := decide_eq_true c4
  clear c4
  simp only [Option.some.injEq, Prod.mk.injEq] at H
  obtain ⟨rfl, rfl, rfl⟩ := H
  obtain ⟨bM, bN, cK⟩ := Kd.R_slice D.out
  subst cK
  obtain ⟨bO, bP, cL⟩ := Kd.R_slice G.out
  subst cL
  go_enter Try.func22, Try.ntmps22
  go_wp2_with (first | ((with_reducible refine gd 2 rfl ?_); refine bx 2 (cs := #[.slice bM af.length bN, .slice bO ag.length bP]) (t := 38) ?_; intro au hg w7 hbox hb; replace D := rb D hb; replace G := rb G hb; have z := am hbox; have aM := Ge.mk ((by rw [hg]; exact (by first | exact HK.out.1 | exact (show Kept w _ (fun k_ => L k_ ∨ O k_) from ts HK.out).1) : w.heap.size ≤ au)); replace HK := kl HK hb; have aN := gwb HB hg; replace HB := hs HB hb; clear hb hbox hg) | ((with_reducible refine gd 3 rfl ?_); refine bx 3 (cs := #[.int .i64 T, .int .i64 Y, .int .i64 Z, .int .i64 aa, .int .i64 ab, .int .i64 ac, .int .i64 ad, .int .i64 ae]) (t := 59) ?_; intro ah hg w8 hbox hb; replace D := rb D hb; replace G := rb G hb; have y := am hbox; have aO := Ge.mk ((by rw [hg]; exact (by first | exact HK.out.1 | exact (show Kept w _ (fun k_ => L k_ ∨ O k_) from ts HK.out).1) : w.heap.size ≤ ah)); replace HK := kl HK hb; have aP := gwb HB hg; replace HB := hs HB hb; have aE := nq z hg; have aF := nq' z hg; replace z := bb z hb rfl; clear hb hbox hg) | ((with_reducible refine gd 4 rfl ?_); refine bx 4 (cs := #[.slice none 0 0, .slice none 0 0]) (t := 38) ?_; intro J hg w9 hbox hb; replace D := rb D hb; replace G := rb G hb; have I := am hbox; have aQ := Ge.mk ((by rw [hg]; exact (by first | exact HK.out.1 | exact (show Kept w _ (fun k_ => L k_ ∨ O k_) from ts HK.out).1) : w.heap.size ≤ J)); replace HK := kl HK hb; have aR := gwb HB hg; replace HB := hs HB hb; have ai := nq z hg; have av := nq' z hg; replace z := bb z hb rfl; have X := nq y hg; have aw := nq' y hg; replace y := bb y hb rfl; clear hb hbox hg; have dO := aF.out; have dP := aE.out; have dQ := X.out; have dR := aw.out; obtain ⟨dS, dT, dU, dV, dW, dX, dY, dZ⟩ := bc8 (w := w9) y.out; have d0 := blk_frozen y.out) | ((with_reducible refine gc 34 rfl ?_); refine gl 8 Try.func34 #[.agg #[.int .i64 T, .int .i64 Y, .int .i64 Z, .int .i64 aa, .int .i64 ab, .int .i64 ac, .int .i64 ad, .int .i64 ae]] ?_; (with_reducible refine (spec_OpLabel.calls k T Y Z aa ab ac ad ae aH _ A3.out).mono ?_); rintro e bQ ⟨rfl, hb⟩; refine ⟨_, rfl, ?_⟩; replace D := rb D hb; replace G := rb G hb; replace z := bb z hb rfl; replace y := bb y hb rfl; replace I := bb I hb rfl; replace HK := kl HK hb; replace HB := hs HB hb; (try clear hb); have d1 := ai.out; have d2 := av.out; obtain ⟨d3, d4⟩ := bc2 (w := bQ) z.out; have d5 := blk_frozen z.out; obtain ⟨d6, d7⟩ := bc2 (w := bQ) I.out; have d8 := blk_frozen I.out))
  refine bodyPost_ret (results_ct rfl _ _ J 38 #[.slice bM af.length bN, .slice bO ag.length bP] (0, 0) _ rfl (bp I.out rfl) Try.underlying38 rfl (by kernel_rfl)) rfl ?_
  exact ⟨_, _, eqr, Kd.R_mono (rt D.out I.out (by decide)) (fun _ hk => hk), Kd.R_mono (rt G.out I.out (by decide)) (fun _ hk => hk), bs HB.out, ts HK.out⟩
 ·rw [if_neg c4] at H
  have cJ : decide (aH < 0) = false := decide_eq_false c4
  clear c4
  replace H := Option.bind_eq_some_iff.mp H
  obtain ⟨aG, bR, H⟩ := H
  try dsimp -simprocs only at H
  have aS := am bR
  clear bR
  by_cases aI : aG = 0
  ·rw [if_pos aI] at H
   have cM : (aG == 0) = true := beq_iff_eq.mpr aI
   have cN : (aG != 0) = false := bne_eq_false_iff_eq.mpr aI
   clear aI
   by_cases aJ : T = 1
   ·rw [if_pos aJ] at H
    have cO : (T == 1) = true := beq_iff_eq.mpr aJ
    have cP : (T != 1) = false := bne_eq_false_iff_eq.mpr aJ
    clear aJ
    replace H := Option.bind_eq_some_iff.mp H
    obtain ⟨⟨aT, aU⟩, bS, H⟩ := H
    try dsimp -simprocs only at H
    have cQ := am bS
    clear bS
    replace H := Option.bind_eq_some_iff.mp H
    obtain ⟨⟨bT, bU⟩, bV, H⟩ := H
    try dsimp -simprocs only at H
    have cR := am bV
    clear bV
    simp only [Option.some.injEq, Prod.mk.injEq] at H
    obtain ⟨rfl, rfl, rfl⟩ := H
    obtain ⟨aV, aW, cS⟩ := Kd.R_slice D.out
    subst cS
    obtain ⟨aX, aY, cT⟩ := Kd.R_slice G.out
    subst cT
    go_enter Try.func22, Try.ntmps22
    try go_wp2_with (first | ((with_reducible refine gd 2 rfl ?_); refine bx 2 (cs := #[.slice aV af.length aW, .slice aX ag.length aY]) (t := 38) ?_; intro au hg d9 hbox hb; replace D := rb D hb; replace G := rb G hb; have z := am hbox; have aM := Ge.mk ((by rw [hg]; exact (by first | exact HK.out.1 | exact (show Kept w _ (fun k_ => L k_ ∨ O k_) from ts HK.out).1) : w.heap.size ≤ au)); replace HK := kl HK hb; have aN := gwb HB hg; replace HB := hs HB hb; clear hb hbox hg) | ((with_reducible refine gd 3 rfl ?_); refine bx 3 (cs := #[.int .i64 T, .int .i64 Y, .int .i64 Z, .int .i64 aa, .int .i64 ab, .int .i64 ac, .int .i64 ad, .int .i64 ae]) (t := 59) ?_; intro ah hg ea hbox hb; replace D := rb D hb; replace G := rb G hb; have y := am hbox; have aO := Ge.mk ((by rw [hg]; exact (by first | exact HK.out.1 | exact (show Kept w _ (fun k_ => L k_ ∨ O k_) from ts HK.out).1) : w.heap.size ≤ ah)); replace HK := kl HK hb; have aP := gwb HB hg; replace HB := hs HB hb; have aE := nq z hg; have aF := nq' z hg; replace z := bb z hb rfl; clear hb hbox hg) | ((with_reducible refine gd 4 rfl ?_); refine bx 4 (cs := #[.slice none 0 0, .slice none 0 0]) (t := 38) ?_; intro J hg cU hbox hb; replace D := rb D hb; replace G := rb G hb; have I := am hbox; have aQ := Ge.mk ((by rw [hg]; exact (by first | exact HK.out.1 | exact (show Kept w _ (fun k_ => L k_ ∨ O k_) from ts HK.out).1) : w.heap.size ≤ J)); replace HK := kl HK hb; have aR := gwb HB hg; replace HB := hs HB hb; have ai := nq z hg; have av := nq' z hg; replace z := bb z hb rfl; have X := nq y hg; have aw := nq' y hg; replace y := bb y hb rfl; clear hb hbox hg; have eb := aF.out; have ec := aE.out; have ed := X.out; have ee := aw.out; obtain ⟨ef, eg, eh, ei, ej, ek, el, em⟩ := bc8 (w := cU) y.out; have en := blk_frozen y.out) | ((with_reducible refine gc 34 rfl ?_); refine gl 8 Try.func34 #[.agg #[.int .i64 T, .int .i64 Y, .int .i64 Z, .int .i64 aa, .int .i64 ab, .int .i64 ac, .int .i64 ad, .int .i64 ae]] ?_; (with_reducible refine (spec_OpLabel.calls k T Y Z aa ab ac ad ae aH _ A3.out).mono ?_); rintro e bW ⟨rfl, hb⟩; refine ⟨_, rfl, ?_⟩; replace D := rb D hb; replace G := rb G hb; replace z := bb z hb rfl; replace y := bb y hb rfl; replace I := bb I hb rfl; replace HK := kl HK hb; replace HB := hs HB hb; (try clear hb); have eo := ai.out; have ep := av.out; obtain ⟨eq, er⟩ := bc2 (w := bW) z.out; have es := blk_frozen z.out; obtain ⟨et, eu, ev, ew, ex, ey, ez, eA⟩ := bc8 (w := bW) y.out; have eB := blk_frozen y.out) | ((with_reducible refine gc 35 rfl ?_); refine gl 13 Try.func35 #[.agg #[.slice aV af.length aW, .slice aX ag.length aY], .agg #[.int .i64 T, .int .i64 Y, .int .i64 Z, .int .i64 aa, .int .i64 ab, .int .i64 ac, .int .i64 ad, .int .i64 ae]] ?_; (with_reducible refine (spec_l2Ends.calls k _ _ af _ _ ag T Y Z aa ab ac ad ae aG _ ?ao ?ap ?aq ?ar aS.out).mono ?_); (case ao => exact cr D); (case ap => exact cc D); (case aq => exact cr G); (case ar => exact cc G); rintro e bX ⟨rfl, hb⟩; refine ⟨_, rfl, ?_⟩; replace D := rb D hb; replace G := rb G hb; replace z := bb z hb rfl; replace y := bb y hb rfl; replace I := bb I hb rfl; replace HK := kl HK hb; replace HB := hs HB hb; (try clear hb); obtain ⟨eC, eD, eE, eF, eG, eH, eI, eJ⟩ := bc8 (w := bX) y.out; have eK := blk_frozen y.out))
    replace D := rd_ D
    replace G := rd_ G
    replace z := bd z
    replace y := bd y
    replace I := bd I
    replace HK := am (Kept.drew HK.out)
    replace HB := hd HB
    refine sta 8 (fun w' => w'.cell? ⟨au, 0, none⟩ = some (.slice aV af.length aW) ∧ w'.cell? ⟨au, 1, none⟩ = some (.slice aX ag.length aY) ∧ w'.cell? ⟨ah, 0, none⟩ = some (.int .i64 T) ∧ w'.cell? ⟨ah, 1, none⟩ = some (.int .i64 Y) ∧ w'.cell? ⟨ah, 2, none⟩ = some (.int .i64 Z) ∧ w'.cell? ⟨ah, 3, none⟩ = some (.int .i64 aa) ∧ w'.cell? ⟨ah, 4, none⟩ = some (.int .i64 ab) ∧ w'.cell? ⟨ah, 5, none⟩ = some (.int .i64 ac) ∧ w'.cell? ⟨ah, 6, none⟩ = some (.int .i64 ad) ∧ w'.cell? ⟨ah, 7, none⟩ = some (.int .i64 ae)) [] ⟨cx z 0, cx z 1, cx y 0, cx y 1, cx y 2, cx y 3, cx y 4, cx y 5, cx y 6, cx y 7⟩ (fun hHeld => ?_); refine with_tabW spec_l2Do.tab8 spec_l2Do.bits8 (fun HT_ HW_ => ?_)
    generalize bX.drew = eL at D G z y I HK HB hHeld ⊢
    refine pu 2 24 ?_
    refine pu 5 27 ?_
    refine tk 0 22 ?_
    refine tk 3 25 ?_
    refine on 1 23 (fun K hK => ?_)
    refine gs Try.func24 #[.agg #[.slice aV af.length aW, .slice aX ag.length aY]] ?_
    with_reducible refine (spec_l2Copy.calls _ _ af _ _ ag aT aU _ ?ao ?ap ?aq ?ar cQ.out).mono ?_
    (case ao => exact cr D)
    (case ap => exact cc D)
    (case aq => exact cr G)
    (case ar => exact cc G)
    rintro e eM ⟨eN, eO, rfl, an, aj, hb⟩
    refine ⟨_, rfl, ?_⟩
    have aA := am (Kd.R_lower (Kd.R_new' (Kd.R_newM (M := fun k_ => ((L k_ ∨ O k_) ∨ w.heap.size ≤ k_)) an (by first | exact HK.out.1 | exact (show Kept w _ (fun k_ => L k_ ∨ O k_) from ts HK.out).1) (fun k_ h_ => .inr h_)) (rk D)) (below_size (bs HB.out)))
    replace D := re D an hb
    have aB := am (Kd.R_lower (Kd.R_new' (Kd.R_newM (M := fun k_ => ((L k_ ∨ O k_) ∨ w.heap.size ≤ k_)) aj (by first | exact HK.out.1 | exact (show Kept w _ (fun k_ => L k_ ∨ O k_) from ts HK.out).1) (fun k_ h_ => .inr h_)) (rk G)) (below_size (bs HB.out)))
    replace G := re G aj hb
    replace z := bb z hb rfl
    replace y := bb y hb rfl
    replace I := bb I hb rfl
    replace HK := kl HK hb
    replace HB := hs HB hb
    (try clear hb)
    (try clear hb2)
    (try clear hk)
    (try clear hi)
    (try clear an)
    (try clear aj)
    obtain ⟨bo, br, bY⟩ := Kd.R_slice aA.out
    (first | subst bY | (injection bY with ak ax al; have ay := ak.symm; have az := al.symm; clear ak ax al; subst ay; subst az))
    obtain ⟨bt, bu, bZ⟩ := Kd.R_slice aB.out
    (first | subst bZ | (injection bZ with ak ax al; have ay := ak.symm; have az := al.symm; clear ak ax al; subst ay; subst az))
    refine hK.out _ _ ⟨cx z 0, cx z 1, cx y 0, cx y 1, cx y 2, cx y 3, cx y 4, cx y 5, cx y 6, cx y 7⟩ (fun hHeld => ?_)
    clear hK K
    refine nrm 23 ?_
    refine on 4 26 (fun K hK => ?_)
    refine gs Try.func36 #[.agg #[.slice bo aT.length br, .slice bt aU.length bu], .agg #[.int .i64 Y, .int .i64 Z]] ?_
    with_reducible refine (spec_l2PutNode.calls k (fun k_ => some k_ = (.slice bo aT.length br : Value).ownBlock) (.slice bo aT.length br) aT (fun k_ => some k_ = (.slice bt aU.length bu : Value).ownBlock) (.slice bt aU.length bu) aU Y Z bT bU w0 _ ?ao ?ap ?aq cR.out).mono ?_
    (case ao => exact bs HB.out)
    (case ap => exact Kd.R_tight rfl aA.out)
    (case aq => exact Kd.R_tight rfl aB.out)
    rintro e b0 ⟨cV, cW, rfl, an, aj, hb, hkp⟩
    refine ⟨_, rfl, ?_⟩
    replace z := am (blk_kept (bf z.out) hkp (fun hs_ => Or.elim hs_ (fun e_ => (fun e_ => (Kd.R_ne aA.out z.out (by decide)) e_) e_) (fun e_ => (fun e_ => (Kd.R_ne aB.out z.out (by decide)) e_) e_)))
    replace y := am (blk_kept (bf y.out) hkp (fun hs_ => Or.elim hs_ (fun e_ => (fun e_ => (Kd.R_ne aA.out y.out (by decide)) e_) e_) (fun e_ => (fun e_ => (Kd.R_ne aB.out y.out (by decide)) e_) e_)))
    replace I := am (blk_kept (bf I.out) hkp (fun hs_ => Or.elim hs_ (fun e_ => (fun e_ => (Kd.R_ne aA.out I.out (by decide)) e_) e_) (fun e_ => (fun e_ => (Kd.R_ne aB.out I.out (by decide)) e_) e_)))
    have b1 := am (Kd.R_mono (ok' := fun k_ => ((L k_ ∨ O k_) ∨ w.heap.size ≤ k_) ∧ some k_ ≠ (.slice aV af.length aW : Value).ownBlock) an (fun k_ hk_ => ⟨Or.elim hk_ (fun hs_ => Or.elim hs_ (fun hs_ => (aA.out.1 k_ (hs_).symm).1.1) (fun hs_ => (aB.out.1 k_ (hs_).symm).1.1)) (fun hn_ => (.inr (Nat.le_trans (by first | exact HK.out.1 | exact (show Kept w _ (fun k_ => L k_ ∨ O k_) from ts HK.out).1) hn_))), Or.elim hk_ (fun hs_ => Or.elim hs_ (fun hs_ => fun e_ => ((((Kd.R_apart' D.out (Kd.R_typed aB.out) (by decide))).1 k_ e_.symm).1.2) hs_) (fun hs_ => fun e_ => ((((Kd.R_apart' D.out (Kd.R_typed aB.out) (by decide))).1 k_ e_.symm).2) hs_)) (fun hn_ => (Kd.fresh' (rk D) k_ hn_))⟩))
    replace D := am (Kd.R_mono (ok' := fun k_ => ((L k_ ∨ O k_) ∨ w.heap.size ≤ k_) ∧ some k_ ≠ (cV : Value).ownBlock) (Kd.R_keptB ((Kd.R_apart' D.out (Kd.R_typed aB.out) (by decide))) hkp (fun k_ hk_ hs_ => Or.elim hs_ (fun e_ => (hk_.1.2) e_) (fun e_ => (hk_.2) e_))) (fun k_ hk_ => ⟨hk_.1.1.1, fun e_ => Or.elim (an.1 k_ e_.symm) (fun hs_ => hk_.2.1 hs_) (fun hn_ => Nat.not_le.2 hk_.2.2 hn_)⟩))
    have b2 := am (Kd.R_mono (ok' := fun k_ => ((L k_ ∨ O k_) ∨ w.heap.size ≤ k_) ∧ some k_ ≠ (.slice aX ag.length aY : Value).ownBlock) aj (fun k_ hk_ => ⟨Or.elim hk_ (fun hs_ => Or.elim hs_ (fun hs_ => (aA.out.1 k_ (hs_).symm).1.1) (fun hs_ => (aB.out.1 k_ (hs_).symm).1.1)) (fun hn_ => (.inr (Nat.le_trans (by first | exact HK.out.1 | exact (show Kept w _ (fun k_ => L k_ ∨ O k_) from ts HK.out).1) hn_))), Or.elim hk_ (fun hs_ => Or.elim hs_ (fun hs_ => fun e_ => ((((Kd.R_apart' G.out (Kd.R_typed aA.out) (by decide))).1 k_ e_.symm).2) hs_) (fun hs_ => fun e_ => ((((Kd.R_apart' G.out (Kd.R_typed aA.out) (by decide))).1 k_ e_.symm).1.2) hs_)) (fun hn_ => (Kd.fresh' (rk G) k_ hn_))⟩))
    replace G := am (Kd.R_mono (ok' := fun k_ => ((L k_ ∨ O k_) ∨ w.heap.size ≤ k_) ∧ some k_ ≠ (cW : Value).ownBlock) (Kd.R_keptB ((Kd.R_apart' G.out (Kd.R_typed aA.out) (by decide))) hkp (fun k_ hk_ hs_ => Or.elim hs_ (fun e_ => (hk_.2) e_) (fun e_ => (hk_.1.2) e_))) (fun k_ hk_ => ⟨hk_.1.1.1, fun e_ => Or.elim (aj.1 k_ e_.symm) (fun hs_ => hk_.2.1 hs_) (fun hn_ => Nat.not_le.2 hk_.2.2 hn_)⟩))
    replace HK := am (Kept.then_ (S := (fun k_ => L k_ ∨ O k_)) (ts HK.out) hkp (fun k_ hs_ => Or.elim hs_ (fun e_ => (fun e_ => (aA.out.1 k_ e_.symm).1.1) e_) (fun e_ => (fun e_ => (aB.out.1 k_ e_.symm).1.1) e_)))
    replace HB := am hb
    clear aA aB
    (try clear hb)
    (try clear hkp)
    (try clear an)
    (try clear aj)
    obtain ⟨cX, cY, b3⟩ := Kd.R_slice b1.out
    (first | subst b3 | (injection b3 with ak ax al; have ay := ak.symm; have az := al.symm; clear ak ax al; subst ay; subst az))
    obtain ⟨cZ, c0, b4⟩ := Kd.R_slice b2.out
    (first | subst b4 | (injection b4 with ak ax al; have ay := ak.symm; have az := al.symm; clear ak ax al; subst ay; subst az))
    refine hK.out _ _ ⟨cx z 0, cx z 1, cx y 0, cx y 1, cx y 2, cx y 3, cx y 4, cx y 5, cx y 6, cx y 7⟩ (fun hHeld => ?_)
    clear hK K
    refine nrm 26 ?_
    refine on0 6 (fun K hK => ?_)
    have eP : b0.cell? ⟨J, 0, none⟩ = some (.slice none 0 0) := cx I 0
    have eQ := blk_frozen I.out 0
    have eR := ai.out
    have eS := X.out
    have eT := av.out
    have eU := aw.out
    have eV : b0.cell? ⟨J, 1, none⟩ = some (.slice none 0 0) := cx I 1
    have eW := blk_frozen I.out 1
    have eX := ai.out
    have eY := X.out
    have eZ := av.out
    have e0 := aw.out
    refine sk ?_
    refine hK.out _ _ ⟨((cell_far (p := ⟨J, _, none⟩) ai.out _).trans (((cell_far (p := ⟨J, _, none⟩) ai.out _).trans (hHeld.1)))), ((cell_far (p := ⟨J, _, none⟩) ai.out _).trans (((cell_far (p := ⟨J, _, none⟩) ai.out _).trans (hHeld.2.1)))), ((cell_far (p := ⟨J, _, none⟩) X.out _).trans (((cell_far (p := ⟨J, _, none⟩) X.out _).trans (hHeld.2.2.1)))), ((cell_far (p := ⟨J, _, none⟩) X.out _).trans (((cell_far (p := ⟨J, _, none⟩) X.out _).trans (hHeld.2.2.2.1)))), ((cell_far (p := ⟨J, _, none⟩) X.out _).trans (((cell_far (p := ⟨J, _, none⟩) X.out _).trans (hHeld.2.2.2.2.1)))), ((cell_far (p := ⟨J, _, none⟩) X.out _).trans (((cell_far (p := ⟨J, _, none⟩) X.out _).trans (hHeld.2.2.2.2.2.1)))), ((cell_far (p := ⟨J, _, none⟩) X.out _).trans (((cell_far (p := ⟨J, _, none⟩) X.out _).trans (hHeld.2.2.2.2.2.2.1)))), ((cell_far (p := ⟨J, _, none⟩) X.out _).trans (((cell_far (p := ⟨J, _, none⟩) X.out _).trans (hHeld.2.2.2.2.2.2.2.1)))), ((cell_far (p := ⟨J, _, none⟩) X.out _).trans (((cell_far (p := ⟨J, _, none⟩) X.out _).trans (hHeld.2.2.2.2.2.2.2.2.1)))), ((cell_far (p := ⟨J, _, none⟩) X.out _).trans (((cell_far (p := ⟨J, _, none⟩) X.out _).trans (hHeld.2.2.2.2.2.2.2.2.2))))⟩ (fun hHeld => ?_)
    clear hK K
    refine pu 7 5 ?_
    refine dn ?_
    try go_wp2
    refine bodyPost_ret (results_ct rfl _ _ J 38 #[.slice cX bT.length cY, .slice cZ bU.length c0] (0, 0) _ rfl (bp I.out rfl) Try.underlying38 rfl (by kernel_rfl)) rfl ?_
    exact ⟨_, _, eqr, Kd.R_mono (rt b1.out I.out (by decide)) (fun _ hk => hk.1), Kd.R_mono (rt b2.out I.out (by decide)) (fun _ hk => hk.1), bs HB.out, ts HK.out⟩
   ·rw [if_neg aJ] at H
    have cO : (T == 1) = false := beq_eq_false_iff_ne.mpr aJ
    have cP : (T != 1) = true := bne_iff_ne.mpr aJ
    by_cases aK : T = 2
    ·rw [if_pos aK] at H
     have c1 : (T == 2) = true := beq_iff_eq.mpr aK
     have c2 : (T != 2) = false := bne_eq_false_iff_eq.mpr aK
     clear aK
     replace H := Option.bind_eq_some_iff.mp H
     obtain ⟨⟨aZ, ba⟩, b5, H⟩ := H
     try dsimp -simprocs only at H
     have c3 := am b5
     clear b5
     replace H := Option.bind_eq_some_iff.mp H
     obtain ⟨⟨b6, b7⟩, b8, H⟩ := H
     try dsimp -simprocs only at H
     have c5 := am b8
     clear b8
     simp only [Option.some.injEq, Prod.mk.injEq] at H
     obtain ⟨rfl, rfl, rfl⟩ := H
     obtain ⟨bc, be, c6⟩ := Kd.R_slice D.out
     subst c6
     obtain ⟨bg, bh, da⟩ := Kd.R_slice G.out
     subst da
     go_enter Try.func22, Try.ntmps22
     try go_wp2_with (first | ((with_reducible refine gd 2 rfl ?_); refine bx 2 (cs := #[.slice bc af.length be, .slice bg ag.length bh]) (t := 38) ?_; intro au hg e1 hbox hb; replace D := rb D hb; replace G := rb G hb; have z := am hbox; have aM := Ge.mk ((by rw [hg]; exact (by first | exact HK.out.1 | exact (show Kept w _ (fun k_ => L k_ ∨ O k_) from ts HK.out).1) : w.heap.size ≤ au)); replace HK := kl HK hb; have aN := gwb HB hg; replace HB := hs HB hb; clear hb hbox hg) | ((with_reducible refine gd 3 rfl ?_); refine bx 3 (cs := #[.int .i64 T, .int .i64 Y, .int .i64 Z, .int .i64 aa, .int .i64 ab, .int .i64 ac, .int .i64 ad, .int .i64 ae]) (t := 59) ?_; intro ah hg e2 hbox hb; replace D := rb D hb; replace G := rb G hb; have y := am hbox; have aO := Ge.mk ((by rw [hg]; exact (by first | exact HK.out.1 | exact (show Kept w _ (fun k_ => L k_ ∨ O k_) from ts HK.out).1) : w.heap.size ≤ ah)); replace HK := kl HK hb; have aP := gwb HB hg; replace HB := hs HB hb; have aE := nq z hg; have aF := nq' z hg; replace z := bb z hb rfl; clear hb hbox hg) | ((with_reducible refine gd 4 rfl ?_); refine bx 4 (cs := #[.slice none 0 0, .slice none 0 0]) (t := 38) ?_; intro J hg db hbox hb; replace D := rb D hb; replace G := rb G hb; have I := am hbox; have aQ := Ge.mk ((by rw [hg]; exact (by first | exact HK.out.1 | exact (show Kept w _ (fun k_ => L k_ ∨ O k_) from ts HK.out).1) : w.heap.size ≤ J)); replace HK := kl HK hb; have aR := gwb HB hg; replace HB := hs HB hb; have ai := nq z hg; have av := nq' z hg; replace z := bb z hb rfl; have X := nq y hg; have aw := nq' y hg; replace y := bb y hb rfl; clear hb hbox hg; have e3 := aF.out; have e4 := aE.out; have e5 := X.out; have e6 := aw.out; obtain ⟨e7, e8, e9, fa, fb, fc, fd, fe⟩ := bc8 (w := db) y.out; have ff := blk_frozen y.out) | ((with_reducible refine gc 34 rfl ?_); refine gl 8 Try.func34 #[.agg #[.int .i64 T, .int .i64 Y, .int .i64 Z, .int .i64 aa, .int .i64 ab, .int .i64 ac, .int .i64 ad, .int .i64 ae]] ?_; (with_reducible refine (spec_OpLabel.calls k T Y Z aa ab ac ad ae aH _ A3.out).mono ?_); rintro e b9 ⟨rfl, hb⟩; refine ⟨_, rfl, ?_⟩; replace D := rb D hb; replace G := rb G hb; replace z := bb z hb rfl; replace y := bb y hb rfl; replace I := bb I hb rfl; replace HK := kl HK hb; replace HB := hs HB hb; (try clear hb); have fg := ai.out; have fh := av.out; obtain ⟨fi, fj⟩ := bc2 (w := b9) z.out; have fk := blk_frozen z.out; obtain ⟨fl, fm, fo, fp, fq, fr, fs, ft⟩ := bc8 (w := b9) y.out; have fu := blk_frozen y.out) | ((with_reducible refine gc 35 rfl ?_); refine gl 13 Try.func35 #[.agg #[.slice bc af.length be, .slice bg ag.length bh], .agg #[.int .i64 T, .int .i64 Y, .int .i64 Z, .int .i64 aa, .int .i64 ab, .int .i64 ac, .int .i64 ad, .int .i64 ae]] ?_; (with_reducible refine (spec_l2Ends.calls k _ _ af _ _ ag T Y Z aa ab ac ad ae aG _ ?ao ?ap ?aq ?ar aS.out).mono ?_); (case ao => exact cr D); (case ap => exact cc D); (case aq => exact cr G); (case ar => exact cc G); rintro e ce ⟨rfl, hb⟩; refine ⟨_, rfl, ?_⟩; replace D := rb D hb; replace G := rb G hb; replace z := bb z hb rfl; replace y := bb y hb rfl; replace I := bb I hb rfl; replace HK := kl HK hb; replace HB := hs HB hb; (try clear hb); obtain ⟨fv, fw, fx, fy, fz, fA, fB, fC⟩ := bc8 (w := ce) y.out; have fD := blk_frozen y.out))
     replace D := rd_ D
     replace G := rd_ G
     replace z := bd z
     replace y := bd y
     replace I := bd I
     replace HK := am (Kept.drew HK.out)
     replace HB := hd HB
     refine sta 8 (fun w' => w'.cell? ⟨au, 0, none⟩ = some (.slice bc af.length be) ∧ w'.cell? ⟨au, 1, none⟩ = some (.slice bg ag.length bh) ∧ w'.cell? ⟨ah, 0, none⟩ = some (.int .i64 T) ∧ w'.cell? ⟨ah, 1, none⟩ = some (.int .i64 Y) ∧ w'.cell? ⟨ah, 2, none⟩ = some (.int .i64 Z) ∧ w'.cell? ⟨ah, 3, none⟩ = some (.int .i64 aa) ∧ w'.cell? ⟨ah, 4, none⟩ = some (.int .i64 ab) ∧ w'.cell? ⟨ah, 5, none⟩ = some (.int .i64 ac) ∧ w'.cell? ⟨ah, 6, none⟩ = some (.int .i64 ad) ∧ w'.cell? ⟨ah, 7, none⟩ = some (.int .i64 ae)) [] ⟨cx z 0, cx z 1, cx y 0, cx y 1, cx y 2, cx y 3, cx y 4, cx y 5, cx y 6, cx y 7⟩ (fun hHeld => ?_); refine with_tabW spec_l2Do.tab10 spec_l2Do.bits10 (fun HT_ HW_ => ?_)
     generalize ce.drew = fE at D G z y I HK HB hHeld ⊢
     refine pu 2 32 ?_
     refine pu 5 35 ?_
     refine tk 0 30 ?_
     refine tk 3 33 ?_
     refine on 1 31 (fun K hK => ?_)
     refine gs Try.func24 #[.agg #[.slice bc af.length be, .slice bg ag.length bh]] ?_
     with_reducible refine (spec_l2Copy.calls _ _ af _ _ ag aZ ba _ ?ao ?ap ?aq ?ar c3.out).mono ?_
     (case ao => exact cr D)
     (case ap => exact cc D)
     (case aq => exact cr G)
     (case ar => exact cc G)
     rintro e fF ⟨fG, fH, rfl, an, aj, hb⟩
     refine ⟨_, rfl, ?_⟩
     have aC := am (Kd.R_lower (Kd.R_new' (Kd.R_newM (M := fun k_ => ((L k_ ∨ O k_) ∨ w.heap.size ≤ k_)) an (by first | exact HK.out.1 | exact (show Kept w _ (fun k_ => L k_ ∨ O k_) from ts HK.out).1) (fun k_ h_ => .inr h_)) (rk D)) (below_size (bs HB.out)))
     replace D := re D an hb
     have aD := am (Kd.R_lower (Kd.R_new' (Kd.R_newM (M := fun k_ => ((L k_ ∨ O k_) ∨ w.heap.size ≤ k_)) aj (by first | exact HK.out.1 | exact (show Kept w _ (fun k_ => L k_ ∨ O k_) from ts HK.out).1) (fun k_ h_ => .inr h_)) (rk G)) (below_size (bs HB.out)))
     replace G := re G aj hb
     replace z := bb z hb rfl
     replace y := bb y hb rfl
     replace I := bb I hb rfl
     replace HK := kl HK hb
     replace HB := hs HB hb
     (try clear hb)
     (try clear hb2)
     (try clear hk)
     (try clear hi)
     (try clear an)
     (try clear aj)
     obtain ⟨bv, bw, cf⟩ := Kd.R_slice aC.out
     (first | subst cf | (injection cf with ak ax al; have ay := ak.symm; have az := al.symm; clear ak ax al; subst ay; subst az))
     obtain ⟨bz, bA, cg⟩ := Kd.R_slice aD.out
     (first | subst cg | (injection cg with ak ax al; have ay := ak.symm; have az := al.symm; clear ak ax al; subst ay; subst az))
     refine hK.out _ _ ⟨cx z 0, cx z 1, cx y 0, cx y 1, cx y 2, cx y 3, cx y 4, cx y 5, cx y 6, cx y 7⟩ (fun hHeld => ?_)
     clear hK K
     refine nrm 31 ?_
     refine on 4 34 (fun K hK => ?_)
     refine gs Try.func37 #[.agg #[.slice bv aZ.length bw, .slice bz ba.length bA], .agg #[.int .i64 aa, .int .i64 ab, .int .i64 ac, .int .i64 ad, .int .i64 ae]] ?_
     with_reducible refine (spec_l2PutEdge.calls k (fun k_ => some k_ = (.slice bv aZ.length bw : Value).ownBlock) (.slice bv aZ.length bw) aZ (fun k_ => some k_ = (.slice bz ba.length bA : Value).ownBlock) (.slice bz ba.length bA) ba aa ab ac ad ae b6 b7 w0 _ ?ao ?ap ?aq c5.out).mono ?_
     (case ao => exact bs HB.out)
     (case ap => exact Kd.R_tight rfl aC.out)
     (case aq => exact Kd.R_tight rfl aD.out)
     rintro e ch ⟨dc, dd, rfl, an, aj, hb, hkp⟩
     refine ⟨_, rfl, ?_⟩
     replace z := am (blk_kept (bf z.out) hkp (fun hs_ => Or.elim hs_ (fun e_ => (fun e_ => (Kd.R_ne aC.out z.out (by decide)) e_) e_) (fun e_ => (fun e_ => (Kd.R_ne aD.out z.out (by decide)) e_) e_)))
     replace y := am (blk_kept (bf y.out) hkp (fun hs_ => Or.elim hs_ (fun e_ => (fun e_ => (Kd.R_ne aC.out y.out (by decide)) e_) e_) (fun e_ => (fun e_ => (Kd.R_ne aD.out y.out (by decide)) e_) e_)))
     replace I := am (blk_kept (bf I.out) hkp (fun hs_ => Or.elim hs_ (fun e_ => (fun e_ => (Kd.R_ne aC.out I.out (by decide)) e_) e_) (fun e_ => (fun e_ => (Kd.R_ne aD.out I.out (by decide)) e_) e_)))
     have ci := am (Kd.R_mono (ok' := fun k_ => ((L k_ ∨ O k_) ∨ w.heap.size ≤ k_) ∧ some k_ ≠ (.slice bc af.length be : Value).ownBlock) an (fun k_ hk_ => ⟨Or.elim hk_ (fun hs_ => Or.elim hs_ (fun hs_ => (aC.out.1 k_ (hs_).symm).1.1) (fun hs_ => (aD.out.1 k_ (hs_).symm).1.1)) (fun hn_ => (.inr (Nat.le_trans (by first | exact HK.out.1 | exact (show Kept w _ (fun k_ => L k_ ∨ O k_) from ts HK.out).1) hn_))), Or.elim hk_ (fun hs_ => Or.elim hs_ (fun hs_ => fun e_ => ((((Kd.R_apart' D.out (Kd.R_typed aD.out) (by decide))).1 k_ e_.symm).1.2) hs_) (fun hs_ => fun e_ => ((((Kd.R_apart' D.out (Kd.R_typed aD.out) (by decide))).1 k_ e_.symm).2) hs_)) (fun hn_ => (Kd.fresh' (rk D) k_ hn_))⟩))
     replace D := am (Kd.R_mono (ok' := fun k_ => ((L k_ ∨ O k_) ∨ w.heap.size ≤ k_) ∧ some k_ ≠ (dc : Value).ownBlock) (Kd.R_keptB ((Kd.R_apart' D.out (Kd.R_typed aD.out) (by decide))) hkp (fun k_ hk_ hs_ => Or.elim hs_ (fun e_ => (hk_.1.2) e_) (fun e_ => (hk_.2) e_))) (fun k_ hk_ => ⟨hk_.1.1.1, fun e_ => Or.elim (an.1 k_ e_.symm) (fun hs_ => hk_.2.1 hs_) (fun hn_ => Nat.not_le.2 hk_.2.2 hn_)⟩))
     have cj := am (Kd.R_mono (ok' := fun k_ => ((L k_ ∨ O k_) ∨ w.heap.size ≤ k_) ∧ some k_ ≠ (.slice bg ag.length bh : Value).ownBlock) aj (fun k_ hk_ => ⟨Or.elim hk_ (fun hs_ => Or.elim hs_ (fun hs_ => (aC.out.1 k_ (hs_).symm).1.1) (fun hs_ => (aD.out.1 k_ (hs_).symm).1.1)) (fun hn_ => (.inr (Nat.le_trans (by first | exact HK.out.1 | exact (show Kept w _ (fun k_ => L k_ ∨ O k_) from ts HK.out).1) hn_))), Or.elim hk_ (fun hs_ => Or.elim hs_ (fun hs_ => fun e_ => ((((Kd.R_apart' G.out (Kd.R_typed aC.out) (by decide))).1 k_ e_.symm).2) hs_) (fun hs_ => fun e_ => ((((Kd.R_apart' G.out (Kd.R_typed aC.out) (by decide))).1 k_ e_.symm).1.2) hs_)) (fun hn_ => (Kd.fresh' (rk G) k_ hn_))⟩))
     replace G := am (Kd.R_mono (ok' := fun k_ => ((L k_ ∨ O k_) ∨ w.heap.size ≤ k_) ∧ some k_ ≠ (dd : Value).ownBlock) (Kd.R_keptB ((Kd.R_apart' G.out (Kd.R_typed aC.out) (by decide))) hkp (fun k_ hk_ hs_ => Or.elim hs_ (fun e_ => (hk_.2) e_) (fun e_ => (hk_.1.2) e_))) (fun k_ hk_ => ⟨hk_.1.1.1, fun e_ => Or.elim (aj.1 k_ e_.symm) (fun hs_ => hk_.2.1 hs_) (fun hn_ => Nat.not_le.2 hk_.2.2 hn_)⟩))
     replace HK := am (Kept.then_ (S := (fun k_ => L k_ ∨ O k_)) (ts HK.out) hkp (fun k_ hs_ => Or.elim hs_ (fun e_ => (fun e_ => (aC.out.1 k_ e_.symm).1.1) e_) (fun e_ => (fun e_ => (aD.out.1 k_ e_.symm).1.1) e_)))
     replace HB := am hb
     clear aC aD
     (try clear hb)
     (try clear hkp)
     (try clear an)
     (try clear aj)
     obtain ⟨de, df, ck⟩ := Kd.R_slice ci.out
     (first | subst ck | (injection ck with ak ax al; have ay := ak.symm; have az := al.symm; clear ak ax al; subst ay; subst az))
     obtain ⟨dg, dh, cl⟩ := Kd.R_slice cj.out
     (first | subst cl | (injection cl with ak ax al; have ay := ak.symm; have az := al.symm; clear ak ax al; subst ay; subst az))
     refine hK.out _ _ ⟨cx z 0, cx z 1, cx y 0, cx y 1, cx y 2, cx y 3, cx y 4, cx y 5, cx y 6, cx y 7⟩ (fun hHeld => ?_)
     clear hK K
     refine nrm 34 ?_
     refine on0 6 (fun K hK => ?_)
     have fI : ch.cell? ⟨J, 0, none⟩ = some (.slice none 0 0) := cx I 0
     have fJ := blk_frozen I.out 0
     have fK := ai.out
     have fL := X.out
     have fM := av.out
     have fN := aw.out
     have fO : ch.cell? ⟨J, 1, none⟩ = some (.slice none 0 0) := cx I 1
     have fP := blk_frozen I.out 1
     have fQ := ai.out
     have fR := X.out
     have fS := av.out
     have fT := aw.out
     refine sk ?_
     refine hK.out _ _ ⟨((cell_far (p := ⟨J, _, none⟩) ai.out _).trans (((cell_far (p := ⟨J, _, none⟩) ai.out _).trans (hHeld.1)))), ((cell_far (p := ⟨J, _, none⟩) ai.out _).trans (((cell_far (p := ⟨J, _, none⟩) ai.out _).trans (hHeld.2.1)))), ((cell_far (p := ⟨J, _, none⟩) X.out _).trans (((cell_far (p := ⟨J, _, none⟩) X.out _).trans (hHeld.2.2.1)))), ((cell_far (p := ⟨J, _, none⟩) X.out _).trans (((cell_far (p := ⟨J, _, none⟩) X.out _).trans (hHeld.2.2.2.1)))), ((cell_far (p := ⟨J, _, none⟩) X.out _).trans (((cell_far (p := ⟨J, _, none⟩) X.out _).trans (hHeld.2.2.2.2.1)))), ((cell_far (p := ⟨J, _, none⟩) X.out _).trans (((cell_far (p := ⟨J, _, none⟩) X.out _).trans (hHeld.2.2.2.2.2.1)))), ((cell_far (p := ⟨J, _, none⟩) X.out _).trans (((cell_far (p := ⟨J, _, none⟩) X.out _).trans (hHeld.2.2.2.2.2.2.1)))), ((cell_far (p := ⟨J, _, none⟩) X.out _).trans (((cell_far (p := ⟨J, _, none⟩) X.out _).trans (hHeld.2.2.2.2.2.2.2.1)))), ((cell_far (p := ⟨J, _, none⟩) X.out _).trans (((cell_far (p := ⟨J, _, none⟩) X.out _).trans (hHeld.2.2.2.2.2.2.2.2.1)))), ((cell_far (p := ⟨J, _, none⟩) X.out _).trans (((cell_far (p := ⟨J, _, none⟩) X.out _).trans (hHeld.2.2.2.2.2.2.2.2.2))))⟩ (fun hHeld => ?_)
     clear hK K
     refine pu 7 5 ?_
     refine dn ?_
     try go_wp2
     refine bodyPost_ret (results_ct rfl _ _ J 38 #[.slice de b6.length df, .slice dg b7.length dh] (0, 0) _ rfl (bp I.out rfl) Try.underlying38 rfl (by kernel_rfl)) rfl ?_
     exact ⟨_, _, eqr, Kd.R_mono (rt ci.out I.out (by decide)) (fun _ hk => hk.1), Kd.R_mono (rt cj.out I.out (by decide)) (fun _ hk => hk.1), bs HB.out, ts HK.out⟩
    ·rw [if_neg aK] at H
     have c1 : (T == 2) = false := beq_eq_false_iff_ne.mpr aK
     have c2 : (T != 2) = true := bne_iff_ne.mpr aK
     by_cases aL : T = 3
     ·rw [if_pos aL] at H
      have di : (T == 3) = true := beq_iff_eq.mpr aL
      have dj : (T != 3) = false := bne_eq_false_iff_eq.mpr aL
      clear aL
      replace H := Option.bind_eq_some_iff.mp H
      obtain ⟨⟨cm, cn⟩, co, H⟩ := H
      try dsimp -simprocs only at H
      have dk := am co
      clear co
      simp only [Option.some.injEq, Prod.mk.injEq] at H
      obtain ⟨rfl, rfl, rfl⟩ := H
      obtain ⟨bi, bj, dl⟩ := Kd.R_slice D.out
      subst dl
      obtain ⟨bk, bl, dm⟩ := Kd.R_slice G.out
      subst dm
      go_enter Try.func22, Try.ntmps22
      go_wp2_with (first | ((with_reducible refine gd 2 rfl ?_); refine bx 2 (cs := #[.slice bi af.length bj, .slice bk ag.length bl]) (t := 38) ?_; intro au hg fU hbox hb; replace D := rb D hb; replace G := rb G hb; have z := am hbox; have aM := Ge.mk ((by rw [hg]; exact (by first | exact HK.out.1 | exact (show Kept w _ (fun k_ => L k_ ∨ O k_) from ts HK.out).1) : w.heap.size ≤ au)); replace HK := kl HK hb; have aN := gwb HB hg; replace HB := hs HB hb; clear hb hbox hg) | ((with_reducible refine gd 3 rfl ?_); refine bx 3 (cs := #[.int .i64 T, .int .i64 Y, .int .i64 Z, .int .i64 aa, .int .i64 ab, .int .i64 ac, .int .i64 ad, .int .i64 ae]) (t := 59) ?_; intro ah hg fV hbox hb; replace D := rb D hb; replace G := rb G hb; have y := am hbox; have aO := Ge.mk ((by rw [hg]; exact (by first | exact HK.out.1 | exact (show Kept w _ (fun k_ => L k_ ∨ O k_) from ts HK.out).1) : w.heap.size ≤ ah)); replace HK := kl HK hb; have aP := gwb HB hg; replace HB := hs HB hb; have aE := nq z hg; have aF := nq' z hg; replace z := bb z hb rfl; clear hb hbox hg) | ((with_reducible refine gd 4 rfl ?_); refine bx 4 (cs := #[.slice none 0 0, .slice none 0 0]) (t := 38) ?_; intro J hg dp hbox hb; replace D := rb D hb; replace G := rb G hb; have I := am hbox; have aQ := Ge.mk ((by rw [hg]; exact (by first | exact HK.out.1 | exact (show Kept w _ (fun k_ => L k_ ∨ O k_) from ts HK.out).1) : w.heap.size ≤ J)); replace HK := kl HK hb; have aR := gwb HB hg; replace HB := hs HB hb; have ai := nq z hg; have av := nq' z hg; replace z := bb z hb rfl; have X := nq y hg; have aw := nq' y hg; replace y := bb y hb rfl; clear hb hbox hg; have fW := aF.out; have fX := aE.out; have fY := X.out; have fZ := aw.out; obtain ⟨f0, f1, f2, f3, f4, f5, f6, f7⟩ := bc8 (w := dp) y.out; have f8 := blk_frozen y.out) | ((with_reducible refine gc 34 rfl ?_); refine gl 8 Try.func34 #[.agg #[.int .i64 T, .int .i64 Y, .int .i64 Z, .int .i64 aa, .int .i64 ab, .int .i64 ac, .int .i64 ad, .int .i64 ae]] ?_; (with_reducible refine (spec_OpLabel.calls k T Y Z aa ab ac ad ae aH _ A3.out).mono ?_); rintro e cp ⟨rfl, hb⟩; refine ⟨_, rfl, ?_⟩; replace D := rb D hb; replace G := rb G hb; replace z := bb z hb rfl; replace y := bb y hb rfl; replace I := bb I hb rfl; replace HK := kl HK hb; replace HB := hs HB hb; (try clear hb); have f9 := ai.out; have ga := av.out; obtain ⟨gb, gf⟩ := bc2 (w := cp) z.out; have gg := blk_frozen z.out; obtain ⟨gh, gi, gj, gm, gn, go, gp, gq⟩ := bc8 (w := cp) y.out; have gt := blk_frozen y.out) | ((with_reducible refine gc 35 rfl ?_); refine gl 13 Try.func35 #[.agg #[.slice bi af.length bj, .slice bk ag.length bl], .agg #[.int .i64 T, .int .i64 Y, .int .i64 Z, .int .i64 aa, .int .i64 ab, .int .i64 ac, .int .i64 ad, .int .i64 ae]] ?_; (with_reducible refine (spec_l2Ends.calls k _ _ af _ _ ag T Y Z aa ab ac ad ae aG _ ?ao ?ap ?aq ?ar aS.out).mono ?_); (case ao => exact cr D); (case ap => exact cc D); (case aq => exact cr G); (case ar => exact cc G); rintro e ct ⟨rfl, hb⟩; refine ⟨_, rfl, ?_⟩; replace D := rb D hb; replace G := rb G hb; replace z := bb z hb rfl; replace y := bb y hb rfl; replace I := bb I hb rfl; replace HK := kl HK hb; replace HB := hs HB hb; (try clear hb); obtain ⟨gu, gv, gw, gx, gy, gz, gA, gB⟩ := bc8 (w := ct) y.out; have gC := blk_frozen y.out; obtain ⟨gD, gE⟩ := bc2 (w := ct) z.out; have gF := blk_frozen z.out) | ((with_reducible refine gc 38 rfl ?_); refine gl 41 Try.func38 #[.agg #[.slice bi af.length bj, .slice bk ag.length bl], .agg #[.int .i64 aa, .int .i64 ab, .int .i64 ac, .int .i64 ad, .int .i64 ae]] ?_; (with_reducible refine (spec_l2Cut.calls k (fun k_ => some k_ = (.slice bi af.length bj : Value).ownBlock) (.slice bi af.length bj) af _ _ ag aa ab ac ad ae cm cn w0 _ ?ao ?ap ?aq ?ar dk.out).mono ?_); (case ao => exact bs HB.out); (case ap => exact Kd.R_tight rfl D.out); (case aq => exact Kd.C_kept_own ((Kd.R_apart' G.out (Kd.R_typed D.out) (by decide))) (fun k_ hk_ hs_ => (hk_.2) hs_)); (case ar => exact cc G); rintro e dq ⟨gG, dr, rfl, an, aj, hb, hkp⟩; refine ⟨_, rfl, ?_⟩; replace z := am (blk_kept (bf z.out) hkp (fun hs_ => (fun e_ => (Kd.R_ne D.out z.out (by decide)) e_) hs_)); replace y := am (blk_kept (bf y.out) hkp (fun hs_ => (fun e_ => (Kd.R_ne D.out y.out (by decide)) e_) hs_)); replace I := am (blk_kept (bf I.out) hkp (fun hs_ => (fun e_ => (Kd.R_ne D.out I.out (by decide)) e_) hs_)); have cu := am (Kd.R_mono (ok' := fun k_ => ((L k_ ∨ O k_) ∨ w.heap.size ≤ k_)) an (fun k_ hk_ => Or.elim hk_ (fun hs_ => (D.out.1 k_ (hs_).symm)) (fun hn_ => (.inr (Nat.le_trans (by first | exact HK.out.1 | exact (show Kept w _ (fun k_ => L k_ ∨ O k_) from ts HK.out).1) hn_))))); have cv := am (Kd.R_mono (ok' := fun k_ => ((L k_ ∨ O k_) ∨ w.heap.size ≤ k_) ∧ some k_ ≠ (.slice bk ag.length bl : Value).ownBlock) aj (fun k_ hk_ => ⟨Or.elim hk_ (fun hs_ => (D.out.1 k_ (hs_).symm)) (fun hn_ => (.inr (Nat.le_trans (by first | exact HK.out.1 | exact (show Kept w _ (fun k_ => L k_ ∨ O k_) from ts HK.out).1) hn_))), Or.elim hk_ (fun hs_ => fun e_ => ((((Kd.R_apart' G.out (Kd.R_typed D.out) (by decide))).1 k_ e_.symm).2) hs_) (fun hn_ => (Kd.fresh' (rk G) k_ hn_))⟩)); replace G := am (Kd.R_mono (ok' := fun k_ => ((L k_ ∨ O k_) ∨ w.heap.size ≤ k_) ∧ some k_ ≠ (dr : Value).ownBlock) (Kd.R_keptB ((Kd.R_apart' G.out (Kd.R_typed D.out) (by decide))) hkp (fun k_ hk_ hs_ => (hk_.2) hs_)) (fun k_ hk_ => ⟨hk_.1.1, fun e_ => Or.elim (aj.1 k_ e_.symm) (fun hs_ => hk_.2.1 hs_) (fun hn_ => Nat.not_le.2 hk_.2.2 hn_)⟩)); replace HK := am (Kept.then_ (S := (fun k_ => L k_ ∨ O k_)) (ts HK.out) hkp (fun k_ hs_ => (fun e_ => (D.out.1 k_ e_.symm)) hs_)); replace HB := am hb; clear D; (try clear hb); (try clear hkp); (try clear an); (try clear aj); obtain ⟨dt, du, dv⟩ := Kd.R_slice cu.out; subst dv; obtain ⟨gH, gI⟩ := bc2 (w := dq) I.out; have gJ := blk_frozen I.out; obtain ⟨dw, dx, dy⟩ := Kd.R_slice cv.out; subst dy))
      refine bodyPost_ret (results_ct rfl _ _ J 38 #[.slice dt cm.length du, .slice dw cn.length dx] (0, 0) _ rfl (bp I.out rfl) Try.underlying38 rfl (by kernel_rfl)) rfl ?_
      exact ⟨_, _, eqr, Kd.R_mono (rt cu.out I.out (by decide)) (fun _ hk => hk), Kd.R_mono (rt cv.out I.out (by decide)) (fun _ hk => hk.1), bs HB.out, ts HK.out⟩
     ·rw [if_neg aL] at H
      have di : (T == 3) = false := beq_eq_false_iff_ne.mpr aL
      have dj : (T != 3) = true := bne_iff_ne.mpr aL
      replace H := Option.bind_eq_some_iff.mp H
      obtain ⟨⟨cy, cz⟩, cA, H⟩ := H
      try dsimp -simprocs only at H
      have dz := am cA
      clear cA
      simp only [Option.some.injEq, Prod.mk.injEq] at H
      obtain ⟨rfl, rfl, rfl⟩ := H
      obtain ⟨bB, bC, dA⟩ := Kd.R_slice D.out
      subst dA
      obtain ⟨bD, bE, dB⟩ := Kd.R_slice G.out
      subst dB
      go_enter Try.func22, Try.ntmps22
      go_wp2_with (first | ((with_reducible refine gd 2 rfl ?_); refine bx 2 (cs := #[.slice bB af.length bC, .slice bD ag.length bE]) (t := 38) ?_; intro au hg gK hbox hb; replace D := rb D hb; replace G := rb G hb; have z := am hbox; have aM := Ge.mk ((by rw [hg]; exact (by first | exact HK.out.1 | exact (show Kept w _ (fun k_ => L k_ ∨ O k_) from ts HK.out).1) : w.heap.size ≤ au)); replace HK := kl HK hb; have aN := gwb HB hg; replace HB := hs HB hb; clear hb hbox hg) | ((with_reducible refine gd 3 rfl ?_); refine bx 3 (cs := #[.int .i64 T, .int .i64 Y, .int .i64 Z, .int .i64 aa, .int .i64 ab, .int .i64 ac, .int .i64 ad, .int .i64 ae]) (t := 59) ?_; intro ah hg gL hbox hb; replace D := rb D hb; replace G := rb G hb; have y := am hbox; have aO := Ge.mk ((by rw [hg]; exact (by first | exact HK.out.1 | exact (show Kept w _ (fun k_ => L k_ ∨ O k_) from ts HK.out).1) : w.heap.size ≤ ah)); replace HK := kl HK hb; have aP := gwb HB hg; replace HB := hs HB hb; have aE := nq z hg; have aF := nq' z hg; replace z := bb z hb rfl; clear hb hbox hg) | ((with_reducible refine gd 4 rfl ?_); refine bx 4 (cs := #[.slice none 0 0, .slice none 0 0]) (t := 38) ?_; intro J hg dC hbox hb; replace D := rb D hb; replace G := rb G hb; have I := am hbox; have aQ := Ge.mk ((by rw [hg]; exact (by first | exact HK.out.1 | exact (show Kept w _ (fun k_ => L k_ ∨ O k_) from ts HK.out).1) : w.heap.size ≤ J)); replace HK := kl HK hb; have aR := gwb HB hg; replace HB := hs HB hb; have ai := nq z hg; have av := nq' z hg; replace z := bb z hb rfl; have X := nq y hg; have aw := nq' y hg; replace y := bb y hb rfl; clear hb hbox hg; have gM := aF.out; have gN := aE.out; have gO := X.out; have gP := aw.out; obtain ⟨gQ, gR, gS, gT, gU, gV, gW, gX⟩ := bc8 (w := dC) y.out; have gY := blk_frozen y.out) | ((with_reducible refine gc 34 rfl ?_); refine gl 8 Try.func34 #[.agg #[.int .i64 T, .int .i64 Y, .int .i64 Z, .int .i64 aa, .int .i64 ab, .int .i64 ac, .int .i64 ad, .int .i64 ae]] ?_; (with_reducible refine (spec_OpLabel.calls k T Y Z aa ab ac ad ae aH _ A3.out).mono ?_); rintro e cB ⟨rfl, hb⟩; refine ⟨_, rfl, ?_⟩; replace D := rb D hb; replace G := rb G hb; replace z := bb z hb rfl; replace y := bb y hb rfl; replace I := bb I hb rfl; replace HK := kl HK hb; replace HB := hs HB hb; (try clear hb); have gZ := ai.out; have g0 := av.out; obtain ⟨g1, g2⟩ := bc2 (w := cB) z.out; have g3 := blk_frozen z.out; obtain ⟨g4, g5, g6, g7, g8, g9, hh, hj⟩ := bc8 (w := cB) y.out; have ho := blk_frozen y.out) | ((with_reducible refine gc 35 rfl ?_); refine gl 13 Try.func35 #[.agg #[.slice bB af.length bC, .slice bD ag.length bE], .agg #[.int .i64 T, .int .i64 Y, .int .i64 Z, .int .i64 aa, .int .i64 ab, .int .i64 ac, .int .i64 ad, .int .i64 ae]] ?_; (with_reducible refine (spec_l2Ends.calls k _ _ af _ _ ag T Y Z aa ab ac ad ae aG _ ?ao ?ap ?aq ?ar aS.out).mono ?_); (case ao => exact cr D); (case ap => exact cc D); (case aq => exact cr G); (case ar => exact cc G); rintro e cC ⟨rfl, hb⟩; refine ⟨_, rfl, ?_⟩; replace D := rb D hb; replace G := rb G hb; replace z := bb z hb rfl; replace y := bb y hb rfl; replace I := bb I hb rfl; replace HK := kl HK hb; replace HB := hs HB hb; (try clear hb); obtain ⟨hp, hu, hv, hx, hy, hz, hA, hC⟩ := bc8 (w := cC) y.out; have hD := blk_frozen y.out; obtain ⟨hE, hF⟩ := bc2 (w := cC) z.out; have hG := blk_frozen z.out) | ((with_reducible refine gc 39 rfl ?_); refine gl 46 Try.func39 #[.agg #[.slice bB af.length bC, .slice bD ag.length bE], .agg #[.int .i64 Y, .int .i64 Z]] ?_; (with_reducible refine (spec_l2Off.calls k _ _ af _ _ ag Y Z cy cz _ ?ao ?ap ?aq ?ar dz.out).mono ?_); (case ao => exact cr D); (case ap => exact cc D); (case aq => exact cr G); (case ar => exact cc G); rintro e dD ⟨hH, hJ, rfl, an, aj, hb⟩; refine ⟨_, rfl, ?_⟩; have cD := am (Kd.R_lower (Kd.R_new' (Kd.R_newM (M := fun k_ => ((L k_ ∨ O k_) ∨ w.heap.size ≤ k_)) an (by first | exact HK.out.1 | exact (show Kept w _ (fun k_ => L k_ ∨ O k_) from ts HK.out).1) (fun k_ h_ => .inr h_)) (rk D)) (below_size (bs HB.out))); replace D := re D an hb; have cE := am (Kd.R_lower (Kd.R_new' (Kd.R_newM (M := fun k_ => ((L k_ ∨ O k_) ∨ w.heap.size ≤ k_)) aj (by first | exact HK.out.1 | exact (show Kept w _ (fun k_ => L k_ ∨ O k_) from ts HK.out).1) (fun k_ h_ => .inr h_)) (rk G)) (below_size (bs HB.out))); replace G := re G aj hb; replace z := bb z hb rfl; replace y := bb y hb rfl; replace I := bb I hb rfl; replace HK := kl HK hb; replace HB := hs HB hb; (try clear hb); (try clear hb2); (try clear hk); (try clear hi); (try clear an); (try clear aj); obtain ⟨dE, dF, dG⟩ := Kd.R_slice cD.out; subst dG; obtain ⟨hL, hM⟩ := bc2 (w := dD) I.out; have hO := blk_frozen I.out; obtain ⟨dH, dI, dJ⟩ := Kd.R_slice cE.out; subst dJ))
      refine bodyPost_ret (results_ct rfl _ _ J 38 #[.slice dE cy.length dF, .slice dH cz.length dI] (0, 0) _ rfl (bp I.out rfl) Try.underlying38 rfl (by kernel_rfl)) rfl ?_
      exact ⟨_, _, eqr, Kd.R_mono (rt cD.out I.out (by decide)) (fun _ hk => hk.1.1), Kd.R_mono (rt cE.out I.out (by decide)) (fun _ hk => hk.1.1), bs HB.out, ts HK.out⟩
  ·rw [if_neg aI] at H
   have cM : (aG == 0) = false := beq_eq_false_iff_ne.mpr aI
   have cN : (aG != 0) = true := bne_iff_ne.mpr aI
   simp only [Option.some.injEq, Prod.mk.injEq] at H
   obtain ⟨rfl, rfl, rfl⟩ := H
   obtain ⟨bF, bG, dK⟩ := Kd.R_slice D.out
   subst dK
   obtain ⟨bH, bI, dL⟩ := Kd.R_slice G.out
   subst dL
   go_enter Try.func22, Try.ntmps22
   go_wp2_with (first | ((with_reducible refine gd 2 rfl ?_); refine bx 2 (cs := #[.slice bF af.length bG, .slice bH ag.length bI]) (t := 38) ?_; intro au hg hP hbox hb; replace D := rb D hb; replace G := rb G hb; have z := am hbox; have aM := Ge.mk ((by rw [hg]; exact (by first | exact HK.out.1 | exact (show Kept w _ (fun k_ => L k_ ∨ O k_) from ts HK.out).1) : w.heap.size ≤ au)); replace HK := kl HK hb; have aN := gwb HB hg; replace HB := hs HB hb; clear hb hbox hg) | ((with_reducible refine gd 3 rfl ?_); refine bx 3 (cs := #[.int .i64 T, .int .i64 Y, .int .i64 Z, .int .i64 aa, .int .i64 ab, .int .i64 ac, .int .i64 ad, .int .i64 ae]) (t := 59) ?_; intro ah hg hR hbox hb; replace D := rb D hb; replace G := rb G hb; have y := am hbox; have aO := Ge.mk ((by rw [hg]; exact (by first | exact HK.out.1 | exact (show Kept w _ (fun k_ => L k_ ∨ O k_) from ts HK.out).1) : w.heap.size ≤ ah)); replace HK := kl HK hb; have aP := gwb HB hg; replace HB := hs HB hb; have aE := nq z hg; have aF := nq' z hg; replace z := bb z hb rfl; clear hb hbox hg) | ((with_reducible refine gd 4 rfl ?_); refine bx 4 (cs := #[.slice none 0 0, .slice none 0 0]) (t := 38) ?_; intro J hg dM hbox hb; replace D := rb D hb; replace G := rb G hb; have I := am hbox; have aQ := Ge.mk ((by rw [hg]; exact (by first | exact HK.out.1 | exact (show Kept w _ (fun k_ => L k_ ∨ O k_) from ts HK.out).1) : w.heap.size ≤ J)); replace HK := kl HK hb; have aR := gwb HB hg; replace HB := hs HB hb; have ai := nq z hg; have av := nq' z hg; replace z := bb z hb rfl; have X := nq y hg; have aw := nq' y hg; replace y := bb y hb rfl; clear hb hbox hg; have hT := aF.out; have hU := aE.out; have hV := X.out; have hW := aw.out; obtain ⟨hX, hY, hZ, h0, h1, h2, h3, h4⟩ := bc8 (w := dM) y.out; have h5 := blk_frozen y.out) | ((with_reducible refine gc 34 rfl ?_); refine gl 8 Try.func34 #[.agg #[.int .i64 T, .int .i64 Y, .int .i64 Z, .int .i64 aa, .int .i64 ab, .int .i64 ac, .int .i64 ad, .int .i64 ae]] ?_; (with_reducible refine (spec_OpLabel.calls k T Y Z aa ab ac ad ae aH _ A3.out).mono ?_); rintro e cF ⟨rfl, hb⟩; refine ⟨_, rfl, ?_⟩; replace D := rb D hb; replace G := rb G hb; replace z := bb z hb rfl; replace y := bb y hb rfl; replace I := bb I hb rfl; replace HK := kl HK hb; replace HB := hs HB hb; (try clear hb); have h6 := ai.out; have h7 := av.out; obtain ⟨h8, h9⟩ := bc2 (w := cF) z.out; have ia := blk_frozen z.out; obtain ⟨ic, ie, ig, ih, ii, ij, ik, il⟩ := bc8 (w := cF) y.out; have im := blk_frozen y.out) | ((with_reducible refine gc 35 rfl ?_); refine gl 13 Try.func35 #[.agg #[.slice bF af.length bG, .slice bH ag.length bI], .agg #[.int .i64 T, .int .i64 Y, .int .i64 Z, .int .i64 aa, .int .i64 ab, .int .i64 ac, .int .i64 ad, .int .i64 ae]] ?_; (with_reducible refine (spec_l2Ends.calls k _ _ af _ _ ag T Y Z aa ab ac ad ae aG _ ?ao ?ap ?aq ?ar aS.out).mono ?_); (case ao => exact cr D); (case ap => exact cc D); (case aq => exact cr G); (case ar => exact cc G); rintro e cG ⟨rfl, hb⟩; refine ⟨_, rfl, ?_⟩; replace D := rb D hb; replace G := rb G hb; replace z := bb z hb rfl; replace y := bb y hb rfl; replace I := bb I hb rfl; replace HK := kl HK hb; replace HB := hs HB hb; (try clear hb); obtain ⟨io, ip⟩ := bc2 (w := cG) z.out; have iq := blk_frozen z.out; obtain ⟨ir, it⟩ := bc2 (w := cG) I.out; have iu := blk_frozen I.out))
   refine bodyPost_ret (results_ct rfl _ _ J 38 #[.slice bF af.length bG, .slice bH ag.length bI] (0, 0) _ rfl (bp I.out rfl) Try.underlying38 rfl (by kernel_rfl)) rfl ?_
   exact ⟨_, _, eqr, Kd.R_mono (rt D.out I.out (by decide)) (fun _ hk => hk), Kd.R_mono (rt G.out I.out (by decide)) (fun _ hk => hk), bs HB.out, ts HK.out⟩

/-! ### spec_l2Node: function 40 -/
def spec_l2Node.f (k : Nat) (s : List Int) (D : Int) : Option (Int × Int × Int) := (spec_l9Rd_num.f k s D (([0, 1, 2, 3, 0, 1, 4, 7] : List Int))).bind fun y => ((spec_l9Rd_num.f k s y.2 (([0, 1, 2, 3, 40] : List Int))).bind fun z => (some (y.1, z.1, z.2)))
theorem spec_l2Node.calls (k : Nat) (g : Nat) (D : List Int) (T : Int) (X : Int) (Y : Int) (Z : Int) (w0 w : World) (hI : IsS46 w0 w g D T) (hB : Below w0.heap.size w0 w) (h : spec_l2Node.f k D T = some (X, Y, Z)) :
  Calls Try.prog 40 #[.pointer (some ⟨g, 0, none⟩)] w fun e w' => e = .returned (.agg #[.int .i64 X, .int .i64 Y]) ∧ IsS46 w0 w' g D Z ∧ Below w0.heap.size w0 w' ∧ KeepBut w w' g none := by
 have hu55 := Try.underlying55
 have s := am hI
 have GEg_ : Ge w0 g := ⟨IsS46.ge s.out⟩
 have HK := am (KeepBut.refl w g none)
 have HL := am hB.size
 clear hI
 have av := am hB.size
 have HB := am hB
 clear hB
 have H := h; unfold spec_l2Node.f at H
 clear h
 obtain ⟨aa, ab⟩ : ∃ y_ : List Int, y_ = (([0, 1, 2, 3, 0, 1, 4, 7] : List Int)) := ⟨_, rfl⟩
 replace H : ((spec_l9Rd_num.f k D T aa).bind fun al => ((spec_l9Rd_num.f k D al.2 (([0, 1, 2, 3, 40] : List Int))).bind fun L => (some (al.1, L.1, L.2)))) = some (X, Y, Z) := by first | (rw [ab]; exact H) | exact H
 have an := am ab
 clear ab
 replace H := Option.bind_eq_some_iff.mp H
 obtain ⟨⟨ac, ad⟩, ao, H⟩ := H
 try dsimp -simprocs only at H
 have A2 := am ao
 clear ao
 obtain ⟨ae, af⟩ : ∃ y_ : List Int, y_ = (([0, 1, 2, 3, 40] : List Int)) := ⟨_, rfl⟩
 replace H : ((spec_l9Rd_num.f k D ad ae).bind fun L => (some (ac, L.1, L.2))) = some (X, Y, Z) := by first | (rw [af]; exact H) | exact H
 have ap := am af
 clear af
 replace H := Option.bind_eq_some_iff.mp H
 obtain ⟨⟨aq, aw⟩, ar, H⟩ := H
 try dsimp -simprocs only at H
 have A3 := am ar
 clear ar
 simp only [Option.some.injEq, Prod.mk.injEq] at H
 obtain ⟨rfl, rfl, rfl⟩ := H
 go_enter Try.func40, Try.ntmps40
 go_wp2_with (first | ((with_reducible refine gd 2 rfl ?_); refine bx 2 (cs := #[.int .i64 0, .int .i64 0]) (t := 55) ?_; intro ax hg w4 hbox hb; replace HB := hs HB hb; have y := am hbox; have ay := gwk HK hg; have aH := gew av ay; replace HK := kb HK hb; have au := nlt s hg; have az := nsy au; replace s := ib s hb; clear hb hbox hg) | ((with_reducible refine gd 4 rfl ?_); refine rli (k := .i64) 3 4 ([0, 1, 2, 3, 0, 1, 4, 7] : List Int) ?_; intro aI w5 O hb hg_ hnew_; clear hg_ hnew_; (first | rw [← an.out] at O | (simp only [Int.reduceToNat] at O; rw [← an.out] at O)); have z := am (Kd.R_lower O (keep_size (w := w) (g := g) (row := none) (ks HK.out))); replace s := ib s hb; replace y := bb y hb rfl; replace HK := kb HK hb; replace HB := hs HB hb; clear hb O; obtain ⟨aA, aB, aC⟩ := Kd.R_slice z.out; subst aC) | ((with_reducible refine gc 19 rfl ?_); refine gl 5 Try.func19 #[.pointer (some ⟨g, 0, none⟩), .slice aA aa.length aB] ?_; (with_reducible refine (spec_l9Rd_num.calls k g D T _ _ aa ac ad w0 _ ?ag ?ah ?ai ?aj ?ak A2.out).mono ?_); (case ag => exact iis s.out); (case ah => exact bs HB.out); (case ai => exact cr z); (case aj => exact cc z); (case ak => exact far_slice (IsS46.own_ne s.out z.out (by decide))); rintro e w8 ⟨rfl, hi, hb, hk⟩; refine ⟨_, rfl, ?_⟩; replace y := kk y hk; replace z := ro z s hk; replace HK := kt HK hk; replace HB := am hb; replace s := am hi; (try clear hi hb hk)) | ((with_reducible refine gd 7 rfl ?_); refine rli (k := .i64) 3 7 ([0, 1, 2, 3, 40] : List Int) ?_; intro aJ w9 I hb hg_ hnew_; clear hg_ hnew_; (first | rw [← ap.out] at I | (simp only [Int.reduceToNat] at I; rw [← ap.out] at I)); have J := am (Kd.R_lower (Kd.R_new' I (rk z)) (keep_size (w := w) (g := g) (row := none) (ks HK.out))); replace z := re z I hb; replace s := ib s hb; replace y := bb y hb rfl; replace HK := kb HK hb; replace HB := hs HB hb; clear hb I; obtain ⟨aD, aE, aF⟩ := Kd.R_slice J.out; subst aF) | ((with_reducible refine gc 19 rfl ?_); refine gl 8 Try.func19 #[.pointer (some ⟨g, 0, none⟩), .slice aD ae.length aE] ?_; (with_reducible refine (spec_l9Rd_num.calls k g D ad _ _ ae aq aw w0 _ ?ag ?ah ?ai ?aj ?ak A3.out).mono ?_); (case ag => exact iis s.out); (case ah => exact bs HB.out); (case ai => exact cr J); (case aj => exact cc J); (case ak => exact far_slice (IsS46.own_ne s.out J.out (by decide))); rintro e aG ⟨rfl, hi, hb, hk⟩; refine ⟨_, rfl, ?_⟩; replace y := kk y hk; replace z := ro z s hk; replace J := ro J s hk; replace HK := kt HK hk; replace HB := am hb; replace s := am hi; (try clear hi hb hk); have aK := az.out; have aL := au.out; obtain ⟨aM, aN⟩ := bc2 (w := aG) y.out; have aO := blk_frozen y.out))
 refine bodyPost_ret (results_cell_row rfl _ _ ax 55 #[.int .i64 ac, .int .i64 aq] (0, 0) _ rfl (bp y.out rfl) Try.underlying55 rfl (by kernel_rfl)) rfl ?_
 exact ⟨eqr, iis s.out, bs HB.out, ks HK.out⟩

/-! ### spec_l1Mix: function 51 -/
def spec_l1Mix.l0 : Nat → Int → Int → Bool → Int → Int → Option (Int)
 | 0, _, _, _, _, _ => none
 | k + 1, z, D, y, G, s => if s ≥ 0 then ((spec_l1Has.f k z s).bind fun J => ((spec_l1Has.f k D s).bind fun I => (if J = true then (if I = true then (spec_l1Mix.l0 k z D y (wrap64 ((wrap64 (G * 2)) + 1)) (wrap64 (s - 1))) else (if y = true then (spec_l1Mix.l0 k z D y (wrap64 (G * 2)) (wrap64 (s - 1))) else (spec_l1Mix.l0 k z D y (wrap64 ((wrap64 (G * 2)) + 1)) (wrap64 (s - 1))))) else (if y = true then (spec_l1Mix.l0 k z D y (wrap64 (G * 2)) (wrap64 (s - 1))) else (if I = true then (spec_l1Mix.l0 k z D y (wrap64 ((wrap64 (G * 2)) + 1)) (wrap64 (s - 1))) else (spec_l1Mix.l0 k z D y (wrap64 (G * 2)) (wrap64 (s - 1)))))))) else (some G)
def spec_l1Mix.f (k : Nat) (s : Int) (y : Int) (z : Bool) : Option (Int) := spec_l1Mix.l0 k s y z 0 2
theorem spec_l1Mix.calls (k : Nat) (y : Int) (z : Int) (I : Bool) (r : Int) (w : World) (h : spec_l1Mix.f k y z I = some r) :
  Calls Try.prog 51 #[.int .i64 y, .int .i64 z, .bool I] w fun e w' => e = .returned (.int .i64 r) ∧ Drawn0 w w' := by
 have H := h; unfold spec_l1Mix.f at H
 clear h
 have H' := am H
 clear H
 go_enter Try.func51, Try.ntmps51
 go_wp2
 go_loopg [7, 8] k (fun kq v7 v8 w' => ∃ (G : Int) (s : Int), v7 = .int .i64 G ∧ v8 = .int .i64 s ∧ Aside0 (spec_l1Mix.l0 kq y z I G s = some r) ∧ Aside0 (kq ≤ k) ∧ Drawn0 w w')
 case atStart => exact ⟨(0), (2), eqs, eqs, H', ⟨Nat.le_refl _⟩, drs⟩
 case round =>
  clear H'
  try clear p2
  obtain ⟨G, s, rfl, rfl, HA, J, ⟨m1, rfl⟩⟩ := hrel
  cases gk with
  | zero => exact absurd HA.out (by simp [spec_l1Mix.l0])
  | succ k1 =>
   have H := HA.out
   clear HA
   simp only [spec_l1Mix.l0] at H
   by_cases L : s ≥ 0
   ·rw [if_pos L] at H
    have ae : decide (0 ≤ s) = true := decide_eq_true L
    clear L
    replace H := Option.bind_eq_some_iff.mp H
    obtain ⟨af, ac, H⟩ := H
    try dsimp -simprocs only at H
    have O := am ac
    clear ac
    replace H := Option.bind_eq_some_iff.mp H
    obtain ⟨T, ad, H⟩ := H
    try dsimp -simprocs only at H
    have X := am ad
    clear ad
    by_cases Y : af = true
    ·subst Y
     replace H : (if T = true then (spec_l1Mix.l0 k1 y z I (wrap64 ((wrap64 (G * 2)) + 1)) (wrap64 (s - 1))) else (if I = true then (spec_l1Mix.l0 k1 y z I (wrap64 (G * 2)) (wrap64 (s - 1))) else (spec_l1Mix.l0 k1 y z I (wrap64 ((wrap64 (G * 2)) + 1)) (wrap64 (s - 1))))) = some r := by rw [if_pos rfl] at H; exact H
     by_cases Z : T = true
     ·subst Z
      replace H : (spec_l1Mix.l0 k1 y z I (wrap64 ((wrap64 (G * 2)) + 1)) (wrap64 (s - 1))) = some r := by rw [if_pos rfl] at H; exact H
      have H' := am H
      clear H
      go_wp2_with (first | ((with_reducible refine gc 42 rfl ?_); refine gl 19 Try.func42 #[.int .i64 y, .int .i64 s] ?_; (with_reducible refine (spec_l1Has.calls k1 y s true _ O.out).mono ?_); rintro e w' ⟨rfl, ⟨nd, rfl⟩⟩; refine ⟨_, rfl, ?_⟩) | ((with_reducible refine gc 42 rfl ?_); refine gl 22 Try.func42 #[.int .i64 z, .int .i64 s] ?_; (with_reducible refine (spec_l1Has.calls k1 z s true _ X.out).mono ?_); rintro e w' ⟨rfl, ⟨nd, rfl⟩⟩; refine ⟨_, rfl, ?_⟩))
      go_roundg k1
      case measure => have := J.out; omega
      case rel => exact ⟨(wrap64 ((wrap64 (G * 2)) + 1)), (wrap64 (s - 1)), eqs, eqs, H', ⟨by have := J.out; omega⟩, drs⟩
     ·replace Z := Bool.eq_false_iff.mpr Z
      subst Z
      have H1 : (if I = true then (spec_l1Mix.l0 k1 y z I (wrap64 (G * 2)) (wrap64 (s - 1))) else (spec_l1Mix.l0 k1 y z I (wrap64 ((wrap64 (G * 2)) + 1)) (wrap64 (s - 1)))) = some r := by rw [if_neg (show ¬ (false = true) by decide)] at H; exact H
      clear H
      have H := H1
      clear H1
      by_cases c9 : I = true
      ·subst c9
       replace H : (spec_l1Mix.l0 k1 y z true (wrap64 (G * 2)) (wrap64 (s - 1))) = some r := by rw [if_pos rfl] at H; exact H
       have H' := am H
       clear H
       go_wp2_with (first | ((with_reducible refine gc 42 rfl ?_); refine gl 19 Try.func42 #[.int .i64 y, .int .i64 s] ?_; (with_reducible refine (spec_l1Has.calls k1 y s true _ O.out).mono ?_); rintro e w' ⟨rfl, ⟨nd, rfl⟩⟩; refine ⟨_, rfl, ?_⟩) | ((with_reducible refine gc 42 rfl ?_); refine gl 22 Try.func42 #[.int .i64 z, .int .i64 s] ?_; (with_reducible refine (spec_l1Has.calls k1 z s false _ X.out).mono ?_); rintro e w' ⟨rfl, ⟨nd, rfl⟩⟩; refine ⟨_, rfl, ?_⟩))
       go_roundg k1
       case measure => have := J.out; omega
       case rel => exact ⟨(wrap64 (G * 2)), (wrap64 (s - 1)), eqs, eqs, H', ⟨by have := J.out; omega⟩, drs⟩
      ·replace c9 := Bool.eq_false_iff.mpr c9
       subst c9
       have H1 : (spec_l1Mix.l0 k1 y z false (wrap64 ((wrap64 (G * 2)) + 1)) (wrap64 (s - 1))) = some r := by rw [if_neg (show ¬ (false = true) by decide)] at H; exact H
       clear H
       have H := H1
       clear H1
       have H' := am H
       clear H
       go_wp2_with (first | ((with_reducible refine gc 42 rfl ?_); refine gl 19 Try.func42 #[.int .i64 y, .int .i64 s] ?_; (with_reducible refine (spec_l1Has.calls k1 y s true _ O.out).mono ?_); rintro e w' ⟨rfl, ⟨nd, rfl⟩⟩; refine ⟨_, rfl, ?_⟩) | ((with_reducible refine gc 42 rfl ?_); refine gl 22 Try.func42 #[.int .i64 z, .int .i64 s] ?_; (with_reducible refine (spec_l1Has.calls k1 z s false _ X.out).mono ?_); rintro e w' ⟨rfl, ⟨nd, rfl⟩⟩; refine ⟨_, rfl, ?_⟩))
       go_roundg k1
       case measure => have := J.out; omega
       case rel => exact ⟨(wrap64 ((wrap64 (G * 2)) + 1)), (wrap64 (s - 1)), eqs, eqs, H', ⟨by have := J.out; omega⟩, drs⟩
    ·replace Y := Bool.eq_false_iff.mpr Y
     subst Y
     have H1 : (if I = true then (spec_l1Mix.l0 k1 y z I (wrap64 (G * 2)) (wrap64 (s - 1))) else (if T = true then (spec_l1Mix.l0 k1 y z I (wrap64 ((wrap64 (G * 2)) + 1)) (wrap64 (s - 1))) else (spec_l1Mix.l0 k1 y z I (wrap64 (G * 2)) (wrap64 (s - 1))))) = some r := by rw [if_neg (show ¬ (false = true) by decide)] at H; exact H
     clear H
     have H := H1
     clear H1
     by_cases aa : I = true
     ·subst aa
      replace H : (spec_l1Mix.l0 k1 y z true (wrap64 (G * 2)) (wrap64 (s - 1))) = some r := by rw [if_pos rfl] at H; exact H
      have H' := am H
      clear H
      go_wp2_with (first | ((with_reducible refine gc 42 rfl ?_); refine gl 19 Try.func42 #[.int .i64 y, .int .i64 s] ?_; (with_reducible refine (spec_l1Has.calls k1 y s false _ O.out).mono ?_); rintro e w' ⟨rfl, ⟨nd, rfl⟩⟩; refine ⟨_, rfl, ?_⟩) | ((with_reducible refine gc 42 rfl ?_); refine gl 22 Try.func42 #[.int .i64 z, .int .i64 s] ?_; (with_reducible refine (spec_l1Has.calls k1 z s T _ X.out).mono ?_); rintro e w' ⟨rfl, ⟨nd, rfl⟩⟩; refine ⟨_, rfl, ?_⟩))
      go_roundg k1
      case measure => have := J.out; omega
      case rel => exact ⟨(wrap64 (G * 2)), (wrap64 (s - 1)), eqs, eqs, H', ⟨by have := J.out; omega⟩, drs⟩
     ·replace aa := Bool.eq_false_iff.mpr aa
      subst aa
      have H1 : (if T = true then (spec_l1Mix.l0 k1 y z false (wrap64 ((wrap64 (G * 2)) + 1)) (wrap64 (s - 1))) else (spec_l1Mix.l0 k1 y z false (wrap64 (G * 2)) (wrap64 (s - 1)))) = some r := by rw [if_neg (show ¬ (false = true) by decide)] at H; exact H
      clear H
      have H := H1
      clear H1
      by_cases ab : T = true
      ·subst ab
       replace H : (spec_l1Mix.l0 k1 y z false (wrap64 ((wrap64 (G * 2)) + 1)) (wrap64 (s - 1))) = some r := by rw [if_pos rfl] at H; exact H
       have H' := am H
       clear H
       go_wp2_with (first | ((with_reducible refine gc 42 rfl ?_); refine gl 19 Try.func42 #[.int .i64 y, .int .i64 s] ?_; (with_reducible refine (spec_l1Has.calls k1 y s false _ O.out).mono ?_); rintro e w' ⟨rfl, ⟨nd, rfl⟩⟩; refine ⟨_, rfl, ?_⟩) | ((with_reducible refine gc 42 rfl ?_); refine gl 22 Try.func42 #[.int .i64 z, .int .i64 s] ?_; (with_reducible refine (spec_l1Has.calls k1 z s true _ X.out).mono ?_); rintro e w' ⟨rfl, ⟨nd, rfl⟩⟩; refine ⟨_, rfl, ?_⟩))
       go_roundg k1
       case measure => have := J.out; omega
       case rel => exact ⟨(wrap64 ((wrap64 (G * 2)) + 1)), (wrap64 (s - 1)), eqs, eqs, H', ⟨by have := J.out; omega⟩, drs⟩
      ·replace ab := Bool.eq_false_iff.mpr ab
       subst ab
       have H1 : (spec_l1Mix.l0 k1 y z false (wrap64 (G * 2)) (wrap64 (s - 1))) = some r := by rw [if_neg (show ¬ (false = true) by decide)] at H; exact H
       clear H
       have H := H1
       clear H1
       have H' := am H
       clear H
       go_wp2_with (first | ((with_reducible refine gc 42 rfl ?_); refine gl 19 Try.func42 #[.int .i64 y, .int .i64 s] ?_; (with_reducible refine (spec_l1Has.calls k1 y s false _ O.out).mono ?_); rintro e w' ⟨rfl, ⟨nd, rfl⟩⟩; refine ⟨_, rfl, ?_⟩) | ((with_reducible refine gc 42 rfl ?_); refine gl 22 Try.func42 #[.int .i64 z, .int .i64 s] ?_; (with_reducible refine (spec_l1Has.calls k1 z s false _ X.out).mono ?_); rintro e w' ⟨rfl, ⟨nd, rfl⟩⟩; refine ⟨_, rfl, ?_⟩))
       go_roundg k1
       case measure => have := J.out; omega
       case rel => exact ⟨(wrap64 (G * 2)), (wrap64 (s - 1)), eqs, eqs, H', ⟨by have := J.out; omega⟩, drs⟩
   ·rw [if_neg L] at H
    have ae : decide (0 ≤ s) = false := decide_eq_false L
    clear L
    obtain rfl := Option.some.inj H
    go_wp2
    go_ret
    exact ⟨eqs, drs⟩

end Go.Proofs.Ytkbamcicbofjbaa.QFnStoreNarrow
