/- Contracts of the Go functions that this law reaches: each does what its plain Lean function says. No condition. -/
import Derived.Test.YtohmemckdogljaaQFnGraphBentx0
import Derived.Test.YtohmemckdogljaaQFnGraphBentx6
import Derived.Test.YtohmemckdogljaaQFnGraphBentx7
import Derived.Test.YtohmemckdogljaaQFnGraphBentx10
import Derived.Test.YtohmemckdogljaaQFnGraphBentx11
namespace Go.Proofs.Ytohmemckdogljaa.QFnGraphBent
open Go.RowKit Go.Proofs.YtohmemckdogljaaW.PrintWords Go.Proofs.YtohmemckdogljaaW.PrintLast Go.Proofs.YtohmemckdogljaaW.PrintMore Go.Proofs.Ytohmemckdogljaa.Bl
attribute [local go_sem] max2_int min2_int max_two min_two max_three min_three max_four min_four   -- for this text's walks alone
set_option linter.unusedVariables false
set_option linter.unusedSimpArgs false
set_option maxHeartbeats 8000000
set_option maxRecDepth 100000

/-! ### spec_l2Bent: function 88 -/
def spec_l2Bent.l0 : Nat → Int → List Int → Int → List (S36) → List (S56) → Option ((List (S36)) × (List (S56)) × Int)
 | 0, _, _, _, _, _ => none
 | k + 1, s, I, y, z, D => if s < 36 then ((spec_l2PutNode.f k z D 5 s).bind fun G => (spec_l2Bent.l0 k (wrap64 (s + 1)) I y G.1 G.2)) else (some (z, D, y))
def spec_l2Bent.f (k : Nat) (D : List Int) (L : Int) (O : List (S36)) (T : List (S56)) : Option ((List (S36)) × (List (S56)) × Int) := (spec_l2Copy.f O T).bind fun s => ((spec_l9Rd_pick.f k D L 60).bind fun y => (if y.1 = 0 then (if (s.1.length : Int) > 0 then ((spec_l9Rd_pick.f k D y.2 (s.1.length : Int)).bind fun G => ((spec_l9Rd_num.f k D G.2 (([(-1), 41, 39] : List Int))).bind fun I => (if 0 ≤ G.1 then (if G.1 < (s.1.length : Int) then (some ((s.1.set (G.1 : Int).toNat (⟨(rd_T36 s.1 G.1).f0, I.1⟩ : S36)), s.2, I.2)) else (none)) else (none)))) else (some (s.1, s.2, y.2))) else (if y.1 = 1 then (if (s.1.length : Int) > 0 then (if 0 < (s.1.length : Int) then (if s.1.length < 8796093022208 then (some ((s.1 ++ [(⟨(rd_T36 s.1 0).f0, (rd_T36 s.1 0).f1⟩ : S36)]), s.2, y.2)) else (none)) else (none)) else (some (s.1, s.2, y.2))) else (if y.1 = 2 then (if (s.1.length : Int) > 0 then (if 1 ≤ (s.1.length : Int) then (some ((s.1.drop (1 : Int).toNat), s.2, y.2)) else (none)) else (some (s.1, s.2, y.2))) else (if y.1 = 3 then (if (s.2.length : Int) > 0 then ((spec_l9Rd_pick.f k D y.2 (s.2.length : Int)).bind fun z => ((spec_l9Rd_num.f k D z.2 (([0, 8, (-1), 7] : List Int))).bind fun J => (if 0 ≤ z.1 then (if z.1 < (s.2.length : Int) then (some (s.1, (s.2.set (z.1 : Int).toNat (⟨J.1, (⟨(rd_T56 s.2 z.1).f1.f0, (rd_T56 s.2 z.1).f1.f1⟩ : S36), (⟨(rd_T56 s.2 z.1).f2.f0, (rd_T56 s.2 z.1).f2.f1⟩ : S36)⟩ : S56)), J.2)) else (none)) else (none)))) else (some (s.1, s.2, y.2))) else (if y.1 = 4 then (if (s.2.length : Int) > 0 then (if 0 < (s.2.length : Int) then (if s.2.length < 3518437208883 then (some (s.1, (s.2 ++ [(⟨(rd_T56 s.2 0).f0, (⟨(rd_T56 s.2 0).f1.f0, (rd_T56 s.2 0).f1.f1⟩ : S36), (⟨(rd_T56 s.2 0).f2.f0, (rd_T56 s.2 0).f2.f1⟩ : S36)⟩ : S56)]), y.2)) else (none)) else (none)) else (some (s.1, s.2, y.2))) else (if y.1 = 5 then (spec_l2Bent.l0 k 30 D y.2 s.1 s.2) else (some (s.1, s.2, y.2)))))))))
def spec_l2Bent.T7 : Bool × List (List Nat × List Nat) := (true, [([], []), ([0], [0]), ([], []), ([], []), ([2, 3], [2, 3]), ([], []), ([], []), ([5, 6, 4], [5, 6]), ([1, 4, 0, 1, 2, 3, 4, 5, 6, 7], [1, 4]), ([8, 0, 1, 2, 3, 4, 5, 6, 7], [8]), ([9, 7, 7, 0, 1, 2, 3, 4, 5, 6, 7], [7, 9])])
def spec_l2Bent.B7 : List Nat := [0, 1, 0, 0, 12, 0, 0, 124, 255, 511, 1023]
theorem spec_l2Bent.tab7 : rtab .any (opsOf Try.f88 7) = spec_l2Bent.T7 := by kernel_rfl
theorem spec_l2Bent.bits7 : waitsOk spec_l2Bent.T7.2 spec_l2Bent.B7 = true := by kernel_rfl
def spec_l2Bent.T10 : Bool × List (List Nat × List Nat) := (true, [([], []), ([0], [0]), ([], []), ([2], [2]), ([3], [3]), ([4], [4]), ([5], [5]), ([1, 6], [1, 6]), ([0, 1, 2, 3, 4, 5, 6, 7], []), ([8, 7, 7, 0, 1, 2, 3, 4, 5, 6, 7], [7, 8])])
def spec_l2Bent.B10 : List Nat := [0, 1, 0, 4, 12, 28, 60, 127, 255, 511]
theorem spec_l2Bent.tab10 : rtab .any (opsOf Try.f88 10) = spec_l2Bent.T10 := by kernel_rfl
theorem spec_l2Bent.bits10 : waitsOk spec_l2Bent.T10.2 spec_l2Bent.B10 = true := by kernel_rfl
def spec_l2Bent.T16 : Bool × List (List Nat × List Nat) := (true, [([], []), ([0], [0]), ([], []), ([], []), ([2, 3], [2, 3]), ([], []), ([], []), ([5, 6, 4], [5, 6]), ([1, 4, 0, 1, 2, 3, 4, 5, 6, 7], [1, 4]), ([8, 0, 1, 2, 3, 4, 5, 6, 7], [8]), ([9, 7, 7, 0, 1, 2, 3, 4, 5, 6, 7], [7, 9])])
def spec_l2Bent.B16 : List Nat := [0, 1, 0, 0, 12, 0, 0, 124, 255, 511, 1023]
theorem spec_l2Bent.tab16 : rtab .any (opsOf Try.f88 16) = spec_l2Bent.T16 := by kernel_rfl
theorem spec_l2Bent.bits16 : waitsOk spec_l2Bent.T16.2 spec_l2Bent.B16 = true := by kernel_rfl
def spec_l2Bent.T19 : Bool × List (List Nat × List Nat) := (true, [([], []), ([0], [0]), ([], []), ([2], [2]), ([3], [3]), ([4], [4]), ([5], [5]), ([1, 6], [1, 6]), ([0, 1, 2, 3, 4, 5, 6, 7], []), ([8, 7, 7, 0, 1, 2, 3, 4, 5, 6, 7], [7, 8])])
def spec_l2Bent.B19 : List Nat := [0, 1, 0, 4, 12, 28, 60, 127, 255, 511]
theorem spec_l2Bent.tab19 : rtab .any (opsOf Try.f88 19) = spec_l2Bent.T19 := by kernel_rfl
theorem spec_l2Bent.bits19 : waitsOk spec_l2Bent.T19.2 spec_l2Bent.B19 = true := by kernel_rfl
theorem spec_l2Bent.calls (k : Nat) (g : Nat) (aq : List Int) (aU : Int) (al : Option Addr) (an : Nat) (Z : List (S36)) (ao : Option Addr) (ap : Nat) (aa : List (S56)) (r1 : List (S36)) (r2 : List (S56)) (r3 : Int) (w0 w : World) (hI : IsS126 w0 w g aq aU) (hB : Below w0.heap.size w0 w) (dM : ∀ W_, KeepBut w W_ g none → Kd.C k36 W_ al Z.length Z) (dN : Z.length ≤ an) (dO : ∀ W_, KeepBut w W_ g none → Kd.C k56 W_ ao aa.length aa) (dP : aa.length ≤ ap) (h : spec_l2Bent.f k aq aU Z aa = some (r1, r2, r3)) :
  Calls Try.prog 88 #[.pointer (some ⟨g, 0, none⟩), .agg #[.slice al Z.length an, .slice ao aa.length ap]] w fun e w' => ∃ dQ dR : Value, e = .returned (.agg #[dQ, dR]) ∧ Kd.Q k36 36 w' w.heap.size (fun _ => True) dQ r1 ∧ Kd.R k56 56 w' w.heap.size (fun _ => True) dR r2 ∧ IsS126 w0 w' g aq r3 ∧ Below w0.heap.size w0 w' ∧ KeepBut w w' g none := by
 have hu34 := Try.underlying34
 have hu36 := Try.underlying36
 have hu56 := Try.underlying56
 have bc := am dM
 have be := am dN
 clear dM dN
 have bg := am dO
 have bh := am dP
 clear dO dP
 have s := am hI
 have GEg_ : Ge w0 g := ⟨IsS126.ge s.out⟩
 have HK := am (KeepBut.refl w g none)
 have HL := am hB.size
 clear hI
 have ak := am hB.size
 have HB := am hB
 clear hB
 have H := h; unfold spec_l2Bent.f at H
 clear h
 replace H := Option.bind_eq_some_iff.mp H
 obtain ⟨⟨O, J⟩, dS, H⟩ := H
 try dsimp -simprocs only at H
 have A3 := am dS
 clear dS
 replace H := Option.bind_eq_some_iff.mp H
 obtain ⟨⟨ab, aJ⟩, dT, H⟩ := H
 try dsimp -simprocs only at H
 have A4 := am dT
 clear dT
 by_cases c5 : ab = 0
 ·rw [if_pos c5] at H
  have fp : (ab == 0) = true := beq_iff_eq.mpr c5
  have fq : (ab != 0) = false := bne_eq_false_iff_eq.mpr c5
  clear c5
  by_cases c6 : (O.length : Int) > 0
  ·rw [if_pos c6] at H
   have fr : decide (0 < (O.length : Int)) = true := decide_eq_true c6
   have fs : decide (0 < O.length) = true := decide_eq_true (by omega)
   clear c6
   replace H := Option.bind_eq_some_iff.mp H
   obtain ⟨⟨ae, bY⟩, dU, H⟩ := H
   try dsimp -simprocs only at H
   have A7 := am dU
   clear dU
   obtain ⟨bO, di⟩ : ∃ y_ : List Int, y_ = (([(-1), 41, 39] : List Int)) := ⟨_, rfl⟩
   replace H : ((spec_l9Rd_num.f k aq bY bO).bind fun dV => (if 0 ≤ ae then (if ae < (O.length : Int) then (some ((O.set (ae : Int).toNat (⟨(rd_T36 O ae).f0, dV.1⟩ : S36)), J, dV.2)) else (none)) else (none))) = some (r1, r2, r3) := by first | (rw [di]; exact H) | exact H
   have cX := am di
   clear di
   replace H := Option.bind_eq_some_iff.mp H
   obtain ⟨⟨aN, dj⟩, dW, H⟩ := H
   try dsimp -simprocs only at H
   have A8 := am dW
   clear dW
   by_cases c9 : 0 ≤ ae
   ·rw [if_pos c9] at H
    have iC : decide (0 ≤ ae) = true := decide_eq_true c9
    clear c9
    by_cases cY : ae < (O.length : Int)
    ·rw [if_pos cY] at H
     have iD : decide (ae < (O.length : Int)) = true := decide_eq_true cY
     clear cY
     obtain ⟨dX, dk⟩ : ∃ y_ : List (S36), y_ = (O.set (ae : Int).toNat (⟨(rd_T36 O ae).f0, aN⟩ : S36)) := ⟨_, rfl⟩
     replace H : (some (dX, J, dj)) = some (r1, r2, r3) := by first | (rw [dk]; exact H) | exact H
     have ft := am dk
     clear dk
     simp only [Option.some.injEq, Prod.mk.injEq] at H
     obtain ⟨rfl, rfl, rfl⟩ := H
     go_enter Try.func88, Try.ntmps88
     try go_wp2_with (first | ((with_reducible refine gd 3 rfl ?_); refine bx 3 (cs := #[.slice al Z.length an, .slice ao aa.length ap]) (t := 34) ?_; intro aM hg iE hbox hb; replace HB := hs HB hb; have y := am hbox; have aA := gwk HK hg; have aV := gew ak aA; replace HK := kb HK hb; have ai := nlt s hg; have aH := nsy ai; replace s := ib s hb; clear hb hbox hg) | ((with_reducible refine gd 4 rfl ?_); refine bx 4 (cs := #[.slice none 0 0, .slice none 0 0]) (t := 34) ?_; intro ac hg fu hbox hb; replace HB := hs HB hb; have z := am hbox; have aB := gwk HK hg; have aW := gew ak aB; replace HK := kb HK hb; have aE := nq y hg; have aG := nq' y hg; replace y := bb y hb rfl; have aj := nlt s hg; have aI := nsy aj; replace s := ib s hb; clear hb hbox hg; have iF := aE.out; have iG := aG.out; have iH := aH.out; have iI := ai.out; obtain ⟨iJ, iK⟩ := bc2 (w := fu) y.out; have iL := blk_frozen y.out) | ((with_reducible refine gc 97 rfl ?_); refine gl 10 Try.func97 #[.agg #[.slice al Z.length an, .slice ao aa.length ap]] ?_; (with_reducible refine (spec_l2Copy.calls _ _ Z _ _ aa O J _ ?T ?X ?ar ?au A3.out).mono ?_); (case T => exact Kd.C_foot_now bc.out (ks HK.out)); (case X => exact be.out); (case ar => exact Kd.C_foot_now bg.out (ks HK.out)); (case au => exact bh.out); rintro e iM ⟨bl, bm, rfl, af, ag, hb⟩; refine ⟨_, rfl, ?_⟩; have G := am (Kd.R_lower af (keep_size (w := w) (g := g) (row := none) (ks HK.out))); have I := am (Kd.R_lower ag (keep_size (w := w) (g := g) (row := none) (ks HK.out))); replace s := ib s hb; replace y := bb y hb rfl; replace z := bb z hb rfl; replace HK := kb HK hb; replace HB := hs HB hb; (try clear af ag hb)) | ((with_reducible refine gd 5 rfl ?_); refine bx 5 (cs := #[.slice none 0 0, .slice none 0 0]) (t := 34) ?_; intro ad hg fv hbox hb; replace G := rb G hb; replace I := rb I hb; replace HB := hs HB hb; have D := am hbox; have aC := gwk HK hg; have aX := gew ak aC; replace HK := kb HK hb; have av := nq y hg; have aw := nq' y hg; replace y := bb y hb rfl; have ax := nq z hg; have ay := nq' z hg; replace z := bb z hb rfl; have ah := nlt s hg; have aD := nsy ah; replace s := ib s hb; clear hb hbox hg; obtain ⟨bI, bn, fw⟩ := Kd.R_slice G.out; subst fw; have iN := aw.out; have iO := av.out; have iP := ay.out; have iQ := ax.out; have iR := aD.out; have iS := ah.out; obtain ⟨iT, iU⟩ := bc2 (w := fv) D.out; have iV := blk_frozen D.out; obtain ⟨bo, br, fx⟩ := Kd.R_slice I.out; subst fx) | ((with_reducible refine gc 120 rfl ?_); refine gl 18 Try.func120 #[.pointer (some ⟨g, 0, none⟩), .int .i64 60] ?_; (with_reducible refine (spec_l9Rd_pick.calls k g aq aU 60 ab aJ w0 _ ?T ?X A4.out).mono ?_); (case T => exact iis s.out); (case X => exact bs HB.out); rintro e fy ⟨rfl, hi, hb, hk⟩; refine ⟨_, rfl, ?_⟩; replace y := kk y hk; replace z := kk z hk; replace G := rp G D s hk; replace I := rp I D s hk; replace D := kp #[.slice bI O.length bn, .slice bo J.length br] D hk; replace HK := kt HK hk; replace HB := am hb; replace s := am hi; (try clear hi hb hk)))
     replace G := rd_ G
     replace I := rd_ I
     replace y := bd y
     replace z := bd z
     replace D := bd D
     replace s := am (IsS126.drew s.out)
     replace HK := am (keep_drew HK.out)
     replace HB := hd HB
     refine sta 11 (fun w' => w'.cell? ⟨ad, 0, none⟩ = some (.slice bI O.length bn) ∧ w'.cell? ⟨ad, 1, none⟩ = some (.slice bo J.length br)) [10] ⟨cx D 0, cx D 1⟩ (fun hHeld => ?_); refine with_tabW spec_l2Bent.tab7 spec_l2Bent.bits7 (fun HT_ HW_ => ?_)
     generalize fy.drew = iW at G I y z D s HK HB hHeld ⊢
     refine pu 0 23 ?_
     refine pu 2 25 ?_
     refine pu 3 26 ?_
     refine pu 5 28 ?_
     refine tk 1 24 ?_
     refine join_ (σ := Value) 4 #[true, true, true, true, true, true, true, false, false, false, false] (fun s_ => [(27, .int .i64 ae), (29, s_)]) (fun s_ w' => (w'.cell? ⟨ad, 0, none⟩ = some (.slice bI O.length bn) ∧ w'.cell? ⟨ad, 1, none⟩ = some (.slice bo J.length br)) ∧ (Kd.R k36 36 w' w.heap.size (fun _ => True) (.slice bI O.length bn) O) ∧ (Kd.R k56 56 w' w.heap.size (fun _ => True) (.slice bo J.length br) J) ∧ (Kd.R (Kd.int .i64) 3 w' w.heap.size (fun _ => True) s_ bO) ∧ (w'.heap[aM]? = some (.cells #[.slice al Z.length an, .slice ao aa.length ap] 34 (0, 0))) ∧ (w'.heap[ac]? = some (.cells #[.slice none 0 0, .slice none 0 0] 34 (0, 0))) ∧ (w'.heap[ad]? = some (.cells #[.slice bI O.length bn, .slice bo J.length br] 34 (0, 0))) ∧ (IsS126 w0 w' g aq bY) ∧ (KeepBut w w' g none) ∧ (Below w0.heap.size w0 w')) ?_ ?_
     rotate_left
     ·intro hCont
      refine two_ (i := 4) (j := 6) (Ni := some 27) (Nj := some 29) #[true, true, true, true, true, true, false, false, false, false, false] #[true, true, true, true, false, true, true, false, false, false, false] rfl rfl rfl rfl (two_of HT_.out (by kernel_rfl)) (by decide) (by decide) (fun K hK => ?_) (fun K hK => ?_)
      ·skip
       refine gs Try.func120 #[.pointer (some ⟨g, 0, none⟩), .int .i64 (O.length : Int)] ?_
       with_reducible refine (spec_l9Rd_pick.calls k g aq aJ (O.length : Int) ae bY w0 _ ?T ?X A7.out).mono ?_
       (case T => exact iis s.out)
       (case X => exact bs HB.out)
       rintro e fz ⟨rfl, hi, hb, hk⟩
       refine ⟨_, rfl, ?_⟩
       replace y := kk y hk
       replace z := kk z hk
       replace G := ro G s hk
       replace I := ro I s hk
       replace D := kk D hk
       replace HK := kt HK hk
       replace HB := am hb
       replace s := am hi
       (try clear hb)
       (try clear hb2)
       (try clear hk)
       (try clear hi)
       refine hK.out _ _ ⟨cx D 0, cx D 1⟩ (fun hHeld => ?_)
       clear hK K
       refine nrm 27 ?_
       refine on 6 29 (fun K hK => ?_)
       refine Kd.R_lit_step (Kd.int .i64) _ 3 ?hg (N := 29) ?hd (xs := ([(-1), 41, 39] : List Int)) (inner := [.int .i64 (-1), .int .i64 41, .int .i64 39]) (ok := fun _ => True) (okp := fun _ => True) ?hr ?hp (fun _ hk => hk) trivial (Below.refl _ _) (Nat.le_refl _) (by simp) ?_; (case hd => rfl); (case hg => rfl); (case hr => first | (go_simp; done) | (go_simp; rfl)); (case hp => exact (Reps.one (show Kd.M (Kd.int .i64) _ _ _ (-1) [.int .i64 (-1)] from rfl) (Reps.one (show Kd.M (Kd.int .i64) _ _ _ 41 [.int .i64 41] from rfl) (Reps.one (show Kd.M (Kd.int .i64) _ _ _ 39 [.int .i64 39] from rfl) (Reps.none _ _)))))
       intro ci iX cj hb hg_ hnew_
       clear hg_ hnew_
       (first | rw [← cX.out] at cj | (simp only [Int.reduceToNat] at cj; rw [← cX.out] at cj))
       replace G := rb G hb
       replace I := rb I hb
       have aR := am (Kd.R_lower cj (keep_size (w := w) (g := g) (row := none) (ks HK.out)))
       replace s := ib s hb
       replace y := bb y hb rfl
       replace z := bb z hb rfl
       replace D := bb D hb rfl
       replace HK := kb HK hb
       replace HB := hs HB hb
       clear hb cj
       refine hK.out _ _ ⟨cx D 0, cx D 1⟩ (fun hHeld => ?_)
       clear hK K
       refine nrm 29 ?_
       exact norm_ (by simp only [putAll, Act.put, List.setIfInBounds_toArray, List.set_cons_zero, List.set_cons_succ]) (hCont (ci) _ ⟨hHeld, (rl G.out), (rl I.out), (rl aR.out), (bf y.out), (bf z.out), (bf D.out), (iis s.out), (ks HK.out), (bs HB.out)⟩)
      ·skip
       refine Kd.R_lit_step (Kd.int .i64) _ 3 ?hg (N := 29) ?hd (xs := ([(-1), 41, 39] : List Int)) (inner := [.int .i64 (-1), .int .i64 41, .int .i64 39]) (ok := fun _ => True) (okp := fun _ => True) ?hr ?hp (fun _ hk => hk) trivial (Below.refl _ _) (Nat.le_refl _) (by simp) ?_; (case hd => rfl); (case hg => rfl); (case hr => first | (go_simp; done) | (go_simp; rfl)); (case hp => exact (Reps.one (show Kd.M (Kd.int .i64) _ _ _ (-1) [.int .i64 (-1)] from rfl) (Reps.one (show Kd.M (Kd.int .i64) _ _ _ 41 [.int .i64 41] from rfl) (Reps.one (show Kd.M (Kd.int .i64) _ _ _ 39 [.int .i64 39] from rfl) (Reps.none _ _)))))
       intro ci fz ck hb hg_ hnew_
       clear hg_ hnew_
       (first | rw [← cX.out] at ck | (simp only [Int.reduceToNat] at ck; rw [← cX.out] at ck))
       replace G := rb G hb
       replace I := rb I hb
       have aR := am (Kd.R_lower ck (keep_size (w := w) (g := g) (row := none) (ks HK.out)))
       replace s := ib s hb
       replace y := bb y hb rfl
       replace z := bb z hb rfl
       replace D := bb D hb rfl
       replace HK := kb HK hb
       replace HB := hs HB hb
       clear hb ck
       refine hK.out _ _ ⟨cx D 0, cx D 1⟩ (fun hHeld => ?_)
       clear hK K
       refine nrm 29 ?_
       refine on 4 27 (fun K hK => ?_)
       refine gs Try.func120 #[.pointer (some ⟨g, 0, none⟩), .int .i64 (O.length : Int)] ?_
       with_reducible refine (spec_l9Rd_pick.calls k g aq aJ (O.length : Int) ae bY w0 _ ?T ?X A7.out).mono ?_
       (case T => exact iis s.out)
       (case X => exact bs HB.out)
       rintro e iY ⟨rfl, hi, hb, hk⟩
       refine ⟨_, rfl, ?_⟩
       replace y := kk y hk
       replace z := kk z hk
       replace G := ro G s hk
       replace I := ro I s hk
       replace D := kk D hk
       replace aR := ro aR s hk
       replace HK := kt HK hk
       replace HB := am hb
       replace s := am hi
       (try clear hb)
       (try clear hb2)
       (try clear hk)
       (try clear hi)
       refine hK.out _ _ ⟨cx D 0, cx D 1⟩ (fun hHeld => ?_)
       clear hK K
       refine nrm 27 ?_
       exact norm_ (by simp only [putAll, Act.put, List.setIfInBounds_toArray, List.set_cons_zero, List.set_cons_succ]) (hCont (ci) _ ⟨hHeld, (rl G.out), (rl I.out), (rl aR.out), (bf y.out), (bf z.out), (bf D.out), (iis s.out), (ks HK.out), (bs HB.out)⟩)
     rintro ci bt ⟨hS_, cl, cm, cn, co, cp, ct, cu, cv, cy⟩
     have aY : Aside0 (Kd.R k36 36 bt w.heap.size (fun _ => True) (.slice bI O.length bn) O) := ⟨cl⟩
     have aZ : Aside0 (Kd.R k56 56 bt w.heap.size (fun _ => True) (.slice bo J.length br) J) := ⟨cm⟩
     have a4 : Aside0 (Kd.R (Kd.int .i64) 3 bt w.heap.size (fun _ => True) ci bO) := ⟨cn⟩
     have a5 : Aside0 (bt.heap[aM]? = some (.cells #[.slice al Z.length an, .slice ao aa.length ap] 34 (0, 0))) := ⟨co⟩
     have a6 : Aside0 (bt.heap[ac]? = some (.cells #[.slice none 0 0, .slice none 0 0] 34 (0, 0))) := ⟨cp⟩
     have a7 : Aside0 (bt.heap[ad]? = some (.cells #[.slice bI O.length bn, .slice bo J.length br] 34 (0, 0))) := ⟨ct⟩
     have a8 : Aside0 (IsS126 w0 bt g aq bY) := ⟨cu⟩
     have a9 : Aside0 (KeepBut w bt g none) := ⟨cv⟩
     have ba : Aside0 (Below w0.heap.size w0 bt) := ⟨cy⟩
     clear G
     clear I
     clear y
     clear z
     clear D
     clear s
     clear HK
     clear HB
     clear cl cm cn co cp ct cu cv cy
     have G := aY
     have I := aZ
     have aR := a4
     have y := a5
     have z := a6
     have D := a7
     have s := a8
     have HK := a9
     have HB := ba
     clear aY aZ a4 a5 a6 a7 a8 a9 ba
     have hHeld : bt.cell? ⟨ad, 0, none⟩ = some (.slice bI O.length bn) ∧ bt.cell? ⟨ad, 1, none⟩ = some (.slice bo J.length br) := hS_
     obtain ⟨dY, dZ, d0⟩ := Kd.R_slice aR.out
     (first | subst d0 | (injection d0 with bu bP bv; have bQ := bu.symm; have bR := bv.symm; clear bu bP bv; subst bQ; subst bR))
     refine norm_ (a' := ?_) ?_ ?_
     rotate_left
     ·simp only [putAll, Act.put, List.setIfInBounds_toArray, List.set_cons_zero, List.set_cons_succ]
      rfl
     refine on 7 30 (fun K hK => ?_)
     refine gs Try.func119 #[.pointer (some ⟨g, 0, none⟩), .slice dY bO.length dZ] ?_
     with_reducible refine (spec_l9Rd_num.calls k g aq bY _ _ bO aN dj w0 _ ?T ?X ?ar ?au ?dl A8.out).mono ?_
     (case T => exact iis s.out)
     (case X => exact bs HB.out)
     (case ar => exact cr aR)
     (case au => exact cc aR)
     (case dl => exact far_slice (IsS126.own_ne s.out aR.out (by decide)))
     rintro e bC ⟨rfl, hi, hb, hk⟩
     refine ⟨_, rfl, ?_⟩
     replace y := kk y hk
     replace z := kk z hk
     replace G := ro G s hk
     replace I := ro I s hk
     replace D := kk D hk
     replace aR := ro aR s hk
     replace HK := kt HK hk
     replace HB := am hb
     replace s := am hi
     (try clear hb)
     (try clear hb2)
     (try clear hk)
     (try clear hi)
     have dm : 0 ≤ (ae : Int) := oda
     have dp : (ae : Int) < ((O.length : Int) : Int) := oda
     obtain ⟨aK, iZ, d1, d2, fA, i0, d3⟩ := Kd.R_form G.out (by omega)
     (first | cases d1 | (injection d1 with ea_ en_ ec_; (first | subst ea_ | (injection ea_ with ea_; subst ea_)); subst ec_; clear en_))
     have d4 := am d2
     have d5 := am d3
     clear d2 fA d3
     obtain ⟨i1, fB, d6, dq, dr⟩ := Kd.R_elem G.out z36 (ae : Int) dm dp
     obtain rfl := k36_openM d6
     have i2 : World.cell? _ ⟨aK, (ae : Int).toNat * 2, none⟩ = some (.int .i64 ((rd_T36 O ae).f0)) := dq 0 _ rfl
     have i3 : World.cell? _ ⟨aK, (ae : Int).toNat * 2 + 1, none⟩ = some (.int .i64 ((rd_T36 O ae).f1)) := dq 1 _ rfl
     have i4 : World.frozen? _ ⟨aK, (ae : Int).toNat * 2, none⟩ = false := dr 0
     have i5 : World.frozen? _ ⟨aK, (ae : Int).toNat * 2 + 1, none⟩ = false := dr 1
     clear fB dq dr d6
     replace dm := eq_true dm
     replace dp := eq_true dp
     have fC := am (show g ≠ aK from by have h_ := IsS126.own_ne s.out G.out (by decide); intro e_; exact h_ (by rw [e_]; rfl))
     obtain ⟨i6, d7, d8, d9, fD⟩ := Kd.R_elem G.out z36 (ae : Int) (oda) (by have h_ : (ae : Int) < ((O.length : Int) : Int) := oda; first | exact h_ | (have e_ := (Kd.R_reads' G.out).1; omega) | simpa using h_)
     obtain rfl := k36_openM d8
     have dt := (Kd.R_seg G.out (ae : Int) (oda) (by have h_ : (ae : Int) < ((O.length : Int) : Int) := oda; first | exact h_ | (have e_ := (Kd.R_reads' G.out).1; omega) | simpa using h_) (seg := [.int .i64 aN]) (j := 1) d7 d9 (show 2 ≤ 2 from by decide) (x' := (⟨(rd_T36 O ae).f0, aN⟩ : S36)) (k36_mkM _ _ _ (⟨(rd_T36 O ae).f0, aN⟩ : S36) ) (fun _ hk => hk)).1
     rw [← ft.out] at dt
     have fE := am dt
     clear d7 d9 fD d8 dt
     refine hK.out _ _ ⟨cx D 0, cx D 1⟩ (fun hHeld => ?_)
     clear hK K
     refine nrm 30 ?_
     refine pu 8 31 ?_
     refine pu 9 32 ?_
     refine la0 10 (fun K hK => ?_)
     refine sk ?_
     refine hK.out _ _ ?_
     clear hK K
     refine dn ?_
     have aY : Aside0 (Kd.R k36 36 (bC.setCell ⟨aK, (ae : Int).toNat * 2 + 1, none⟩ (.int .i64 aN)) w.heap.size (fun _ => True) (.slice (some ⟨aK, 0, none⟩) O.length bn) dX) := ⟨by (with_reducible repeat (first | apply Kd.R_alloc | apply Kd.R_drewN | apply Kd.R_drew)); exact fE.out⟩
     have aZ : Aside0 (Kd.R k56 56 (bC.setCell ⟨aK, (ae : Int).toNat * 2 + 1, none⟩ (.int .i64 aN)) w.heap.size (fun _ => True) (.slice bo J.length br) J) := ⟨by (with_reducible repeat (first | apply Kd.R_alloc | apply Kd.R_drewN | apply Kd.R_drew)); exact Kd.R_mono (Kd.R_far (p := ⟨aK, (ae : Int).toNat * 2 + 1, none⟩) (Kd.R_types I.out d5.out (by decide)) (fun _ hk => hk.2) (.int .i64 aN)) (fun _ hk => trivial)⟩
     have a4 : Aside0 (Kd.R (Kd.int .i64) 3 (bC.setCell ⟨aK, (ae : Int).toNat * 2 + 1, none⟩ (.int .i64 aN)) w.heap.size (fun _ => True) (.slice dY bO.length dZ) bO) := ⟨by (with_reducible repeat (first | apply Kd.R_alloc | apply Kd.R_drewN | apply Kd.R_drew)); exact Kd.R_mono (Kd.R_far (p := ⟨aK, (ae : Int).toNat * 2 + 1, none⟩) (Kd.R_types aR.out d5.out (by decide)) (fun _ hk => hk.2) (.int .i64 aN)) (fun _ hk => trivial)⟩
     have a5 : Aside0 ((bC.setCell ⟨aK, (ae : Int).toNat * 2 + 1, none⟩ (.int .i64 aN)).heap[aM]? = some (.cells #[.slice al Z.length an, .slice ao aa.length ap] 34 (0, 0))) := ⟨by (with_reducible repeat (first | refine blk_drewN ?_ _ | refine blk_drew ?_ | refine blk_alloc ?_ _)); refine blk_far ?_ (by have h_ := Kd.R_ne G.out y.out (by decide); intro e_; exact h_ (by rw [e_]; rfl)) _; exact bf y.out⟩
     have a6 : Aside0 ((bC.setCell ⟨aK, (ae : Int).toNat * 2 + 1, none⟩ (.int .i64 aN)).heap[ac]? = some (.cells #[.slice none 0 0, .slice none 0 0] 34 (0, 0))) := ⟨by (with_reducible repeat (first | refine blk_drewN ?_ _ | refine blk_drew ?_ | refine blk_alloc ?_ _)); refine blk_far ?_ (by have h_ := Kd.R_ne G.out z.out (by decide); intro e_; exact h_ (by rw [e_]; rfl)) _; exact bf z.out⟩
     have a7 : Aside0 ((bC.setCell ⟨aK, (ae : Int).toNat * 2 + 1, none⟩ (.int .i64 aN)).heap[ad]? = some (.cells #[.slice (some ⟨aK, 0, none⟩) O.length bn, .slice bo J.length br] 34 (0, 0))) := ⟨by (with_reducible repeat (first | refine blk_drewN ?_ _ | refine blk_drew ?_ | refine blk_alloc ?_ _)); refine blk_far ?_ (by have h_ := Kd.R_ne G.out D.out (by decide); intro e_; exact h_ (by rw [e_]; rfl)) _; exact bf D.out⟩
     have a8 : Aside0 (IsS126 w0 (bC.setCell ⟨aK, (ae : Int).toNat * 2 + 1, none⟩ (.int .i64 aN)) g aq dj) := ⟨by repeat (first | (with_reducible first | exact s.out | apply IsS126.alloc | apply IsS126.drewN | apply IsS126.drew | apply IsS126.set_1 | refine IsS126.far ?_ fC.out _ | refine IsS126.far ?_ ai.out _ | refine IsS126.far ?_ aj.out _ | refine IsS126.far ?_ ah.out _) | exact s.out)⟩
     have a9 : Aside0 (KeepBut w (bC.setCell ⟨aK, (ae : Int).toNat * 2 + 1, none⟩ (.int .i64 aN)) g none) := ⟨by repeat (first | (with_reducible first | exact HK.out | apply KeepBut.set_ | apply keep_drewN | apply keep_drew | apply keep_alloc | refine keep_far ?_ d4.out _ | refine keep_far ?_ aA.out _ | refine keep_far ?_ aB.out _ | refine keep_far ?_ aC.out _) | exact HK.out)⟩
     have ba : Aside0 (Below w0.heap.size w0 (bC.setCell ⟨aK, (ae : Int).toNat * 2 + 1, none⟩ (.int .i64 aN))) := ⟨by repeat (first | (with_reducible first | exact HB.out | apply below_alloc | apply pw_below_drewN | apply below_drew1 | refine below_set ?_ (Nat.le_trans HL.out d4.out) | refine below_set ?_ (IsS126.ge s.out) | refine below_set ?_ aV.out | refine below_set ?_ aW.out | refine below_set ?_ aX.out) | exact HB.out)⟩
     (try clear G)
     (try clear I)
     (try clear aR)
     (try clear y)
     (try clear z)
     (try clear D)
     (try clear s)
     (try clear HK)
     (try clear HB)
     generalize (bC.setCell ⟨aK, (ae : Int).toNat * 2 + 1, none⟩ (.int .i64 aN)) = ea at aY aZ a4 a5 a6 a7 a8 a9 ba ⊢
     have G := aY
     have I := aZ
     have aR := a4
     have y := a5
     have z := a6
     have D := a7
     have s := a8
     have HK := a9
     have HB := ba
     clear aY aZ a4 a5 a6 a7 a8 a9 ba
     obtain ⟨i7, i8⟩ := bc2 (w := ea) D.out
     have i9 := blk_frozen D.out
     have ja := aI.out
     have jb := aj.out
     obtain ⟨jc, jd⟩ := bc2 (w := ea) z.out
     have je := blk_frozen z.out
     try go_wp2
     refine bodyPost_ret (results_cell_row rfl _ _ ac 34 #[.slice (some ⟨aK, 0, none⟩) O.length bn, .slice bo J.length br] (0, 0) _ rfl (bp z.out rfl) Try.underlying34 rfl (by kernel_rfl)) rfl ?_
     exact ⟨_, _, eqr, Kd.Q_of_R (Kd.R_mono (rt G.out z.out (by decide)) (fun _ hk => trivial)), Kd.R_mono (rt I.out z.out (by decide)) (fun _ hk => trivial), iis s.out, bs HB.out, ks HK.out⟩
    ·rw [if_neg cY] at H
     exact absurd H (by simp)
   ·rw [if_neg c9] at H
    exact absurd H (by simp)
  ·rw [if_neg c6] at H
   have fr : decide (0 < (O.length : Int)) = false := decide_eq_false c6
   have fs : decide (0 < O.length) = false := decide_eq_false (by omega)
   clear c6
   simp only [Option.some.injEq, Prod.mk.injEq] at H
   obtain ⟨rfl, rfl, rfl⟩ := H
   go_enter Try.func88, Try.ntmps88
   go_wp2_with (first | ((with_reducible refine gd 3 rfl ?_); refine bx 3 (cs := #[.slice al Z.length an, .slice ao aa.length ap]) (t := 34) ?_; intro aM hg jf hbox hb; replace HB := hs HB hb; have y := am hbox; have aA := gwk HK hg; have aV := gew ak aA; replace HK := kb HK hb; have ai := nlt s hg; have aH := nsy ai; replace s := ib s hb; clear hb hbox hg) | ((with_reducible refine gd 4 rfl ?_); refine bx 4 (cs := #[.slice none 0 0, .slice none 0 0]) (t := 34) ?_; intro ac hg fF hbox hb; replace HB := hs HB hb; have z := am hbox; have aB := gwk HK hg; have aW := gew ak aB; replace HK := kb HK hb; have aE := nq y hg; have aG := nq' y hg; replace y := bb y hb rfl; have aj := nlt s hg; have aI := nsy aj; replace s := ib s hb; clear hb hbox hg; have jg := aE.out; have jh := aG.out; have ji := aH.out; have jj := ai.out; obtain ⟨jk, jl⟩ := bc2 (w := fF) y.out; have jm := blk_frozen y.out) | ((with_reducible refine gc 97 rfl ?_); refine gl 10 Try.func97 #[.agg #[.slice al Z.length an, .slice ao aa.length ap]] ?_; (with_reducible refine (spec_l2Copy.calls _ _ Z _ _ aa O J _ ?T ?X ?ar ?au A3.out).mono ?_); (case T => exact Kd.C_foot_now bc.out (ks HK.out)); (case X => exact be.out); (case ar => exact Kd.C_foot_now bg.out (ks HK.out)); (case au => exact bh.out); rintro e jn ⟨bl, bm, rfl, af, ag, hb⟩; refine ⟨_, rfl, ?_⟩; have G := am (Kd.R_lower af (keep_size (w := w) (g := g) (row := none) (ks HK.out))); have I := am (Kd.R_lower ag (keep_size (w := w) (g := g) (row := none) (ks HK.out))); replace s := ib s hb; replace y := bb y hb rfl; replace z := bb z hb rfl; replace HK := kb HK hb; replace HB := hs HB hb; (try clear af ag hb)) | ((with_reducible refine gd 5 rfl ?_); refine bx 5 (cs := #[.slice none 0 0, .slice none 0 0]) (t := 34) ?_; intro ad hg fG hbox hb; replace G := rb G hb; replace I := rb I hb; replace HB := hs HB hb; have D := am hbox; have aC := gwk HK hg; have aX := gew ak aC; replace HK := kb HK hb; have av := nq y hg; have aw := nq' y hg; replace y := bb y hb rfl; have ax := nq z hg; have ay := nq' z hg; replace z := bb z hb rfl; have ah := nlt s hg; have aD := nsy ah; replace s := ib s hb; clear hb hbox hg; obtain ⟨eb, ec, fH⟩ := Kd.R_slice G.out; subst fH; have jo := aw.out; have jp := av.out; have jq := ay.out; have jr := ax.out; have js := aD.out; have jt := ah.out; obtain ⟨ju, jv⟩ := bc2 (w := fG) D.out; have jw := blk_frozen D.out; obtain ⟨ed, ee, fI⟩ := Kd.R_slice I.out; subst fI) | ((with_reducible refine gc 120 rfl ?_); refine gl 18 Try.func120 #[.pointer (some ⟨g, 0, none⟩), .int .i64 60] ?_; (with_reducible refine (spec_l9Rd_pick.calls k g aq aU 60 ab aJ w0 _ ?T ?X A4.out).mono ?_); (case T => exact iis s.out); (case X => exact bs HB.out); rintro e ef ⟨rfl, hi, hb, hk⟩; refine ⟨_, rfl, ?_⟩; replace y := kk y hk; replace z := kk z hk; replace G := rp G D s hk; replace I := rp I D s hk; replace D := kp #[.slice eb O.length ec, .slice ed J.length ee] D hk; replace HK := kt HK hk; replace HB := am hb; replace s := am hi; (try clear hi hb hk); obtain ⟨jx, jy⟩ := bc2 (w := ef) D.out; have jz := blk_frozen D.out; have jA := aI.out; have jB := aj.out; obtain ⟨jC, jD⟩ := bc2 (w := ef) z.out; have jE := blk_frozen z.out))
   refine bodyPost_ret (results_cell_row rfl _ _ ac 34 #[.slice eb O.length ec, .slice ed J.length ee] (0, 0) _ rfl (bp z.out rfl) Try.underlying34 rfl (by kernel_rfl)) rfl ?_
   exact ⟨_, _, eqr, Kd.Q_of_R (Kd.R_mono (rt G.out z.out (by decide)) (fun _ hk => trivial)), Kd.R_mono (rt I.out z.out (by decide)) (fun _ hk => trivial), iis s.out, bs HB.out, ks HK.out⟩
 ·rw [if_neg c5] at H
  have fp : (ab == 0) = false := beq_eq_false_iff_ne.mpr c5
  have fq : (ab != 0) = true := bne_iff_ne.mpr c5
  by_cases bS : ab = 1
  ·rw [if_pos bS] at H
   have fJ : (ab == 1) = true := beq_iff_eq.mpr bS
   have fK : (ab != 1) = false := bne_eq_false_iff_eq.mpr bS
   clear bS
   by_cases bZ : (O.length : Int) > 0
   ·rw [if_pos bZ] at H
    have fL : decide (0 < (O.length : Int)) = true := decide_eq_true bZ
    have fM : decide (0 < O.length) = true := decide_eq_true (by omega)
    clear bZ
    by_cases cZ : 0 < (O.length : Int)
    ·rw [if_pos cZ] at H
     have jF : decide (0 < (O.length : Int)) = true := decide_eq_true cZ
     have jG : decide (0 < O.length) = true := decide_eq_true (by omega)
     clear cZ
     by_cases c0 : O.length < 8796093022208
     ·rw [if_pos c0] at H
      have fN := am c0
      clear c0
      obtain ⟨b0, du⟩ : ∃ y_ : List (S36), y_ = (O ++ [(⟨(rd_T36 O 0).f0, (rd_T36 O 0).f1⟩ : S36)]) := ⟨_, rfl⟩
      replace H : (some (b0, J, aJ)) = some (r1, r2, r3) := by first | (rw [du]; exact H) | exact H
      have fO := am du
      clear du
      simp only [Option.some.injEq, Prod.mk.injEq] at H
      obtain ⟨rfl, rfl, rfl⟩ := H
      go_enter Try.func88, Try.ntmps88
      try go_wp2_with (first | ((with_reducible refine gd 3 rfl ?_); refine bx 3 (cs := #[.slice al Z.length an, .slice ao aa.length ap]) (t := 34) ?_; intro aM hg jH hbox hb; replace HB := hs HB hb; have y := am hbox; have aA := gwk HK hg; have aV := gew ak aA; replace HK := kb HK hb; have ai := nlt s hg; have aH := nsy ai; replace s := ib s hb; clear hb hbox hg) | ((with_reducible refine gd 4 rfl ?_); refine bx 4 (cs := #[.slice none 0 0, .slice none 0 0]) (t := 34) ?_; intro ac hg fP hbox hb; replace HB := hs HB hb; have z := am hbox; have aB := gwk HK hg; have aW := gew ak aB; replace HK := kb HK hb; have aE := nq y hg; have aG := nq' y hg; replace y := bb y hb rfl; have aj := nlt s hg; have aI := nsy aj; replace s := ib s hb; clear hb hbox hg; have jI := aE.out; have jJ := aG.out; have jK := aH.out; have jL := ai.out; obtain ⟨jM, jN⟩ := bc2 (w := fP) y.out; have jO := blk_frozen y.out) | ((with_reducible refine gc 97 rfl ?_); refine gl 10 Try.func97 #[.agg #[.slice al Z.length an, .slice ao aa.length ap]] ?_; (with_reducible refine (spec_l2Copy.calls _ _ Z _ _ aa O J _ ?T ?X ?ar ?au A3.out).mono ?_); (case T => exact Kd.C_foot_now bc.out (ks HK.out)); (case X => exact be.out); (case ar => exact Kd.C_foot_now bg.out (ks HK.out)); (case au => exact bh.out); rintro e w64 ⟨bl, bm, rfl, af, ag, hb⟩; refine ⟨_, rfl, ?_⟩; have G := am (Kd.R_lower af (keep_size (w := w) (g := g) (row := none) (ks HK.out))); have I := am (Kd.R_lower ag (keep_size (w := w) (g := g) (row := none) (ks HK.out))); replace s := ib s hb; replace y := bb y hb rfl; replace z := bb z hb rfl; replace HK := kb HK hb; replace HB := hs HB hb; (try clear af ag hb)) | ((with_reducible refine gd 5 rfl ?_); refine bx 5 (cs := #[.slice none 0 0, .slice none 0 0]) (t := 34) ?_; intro ad hg fQ hbox hb; replace G := rb G hb; replace I := rb I hb; replace HB := hs HB hb; have D := am hbox; have aC := gwk HK hg; have aX := gew ak aC; replace HK := kb HK hb; have av := nq y hg; have aw := nq' y hg; replace y := bb y hb rfl; have ax := nq z hg; have ay := nq' z hg; replace z := bb z hb rfl; have ah := nlt s hg; have aD := nsy ah; replace s := ib s hb; clear hb hbox hg; obtain ⟨fR, c3, fS⟩ := Kd.R_slice G.out; subst fS; have jP := aw.out; have jQ := av.out; have jR := ay.out; have jS := ax.out; have jT := aD.out; have jU := ah.out; obtain ⟨jV, jW⟩ := bc2 (w := fQ) D.out; have jX := blk_frozen D.out; obtain ⟨cz, cA, fT⟩ := Kd.R_slice I.out; subst fT) | ((with_reducible refine gc 120 rfl ?_); refine gl 18 Try.func120 #[.pointer (some ⟨g, 0, none⟩), .int .i64 60] ?_; (with_reducible refine (spec_l9Rd_pick.calls k g aq aU 60 ab aJ w0 _ ?T ?X A4.out).mono ?_); (case T => exact iis s.out); (case X => exact bs HB.out); rintro e fU ⟨rfl, hi, hb, hk⟩; refine ⟨_, rfl, ?_⟩; replace y := kk y hk; replace z := kk z hk; replace G := rp G D s hk; replace I := rp I D s hk; replace D := kp #[.slice fR O.length c3, .slice cz J.length cA] D hk; replace HK := kt HK hk; replace HB := am hb; replace s := am hi; (try clear hi hb hk)))
      replace G := rd_ G
      replace I := rd_ I
      replace y := bd y
      replace z := bd z
      replace D := bd D
      replace s := am (IsS126.drew s.out)
      replace HK := am (keep_drew HK.out)
      replace HB := hd HB
      have dv : 0 ≤ (0 : Int) := (by omega)
      have dw : 0 < (O.length : Int) := oda
      obtain ⟨b1, fV, cB, cC⟩ := at_T36 (Kd.R_reads' G.out).2.2 0 dv dw
      cases fV
      have jY : (0 < O.length) = True := eq_true (by omega)
      (try rw [show ((0 : Int)).toNat = 0 from rfl] at cB)
      (try rw [show 0 * 2 = 0 from rfl] at cB)
      (try rw [Addr.add_zero'] at cB)
      (try rw [show ((0 : Int)).toNat = 0 from rfl] at cC)
      (try rw [show 0 * 2 = 0 from rfl] at cC)
      (try rw [Addr.add_zero'] at cC)
      replace dv := eq_true dv
      replace dw := eq_true dw
      refine sta 10 (fun w' => w'.cell? ⟨ad, 0, none⟩ = some (.slice (some b1) O.length c3) ∧ w'.cell? ⟨ad, 1, none⟩ = some (.slice cz J.length cA) ∧ w'.cell? b1 = some (.int .i64 ((rd_T36 O 0).f0)) ∧ w'.cell? ⟨b1.block, b1.off + 1, none⟩ = some (.int .i64 ((rd_T36 O 0).f1))) [7, 9] ⟨cx D 0, cx D 1, cB, cC⟩ (fun hHeld => ?_); refine with_tabW spec_l2Bent.tab10 spec_l2Bent.bits10 (fun HT_ HW_ => ?_)
      generalize fU.drew = jZ at G I y z D s HK HB cB cC hHeld ⊢
      refine pu 0 37 ?_
      refine pu 2 39 ?_
      refine tk 1 38 ?_
      refine tk 3 40 ?_
      refine pu 4 41 ?_
      refine tk 5 42 ?_
      refine on 6 43 (fun K hK => ?_)
      refine va ?_
      refine hK.out _ _ ⟨cx D 0, cx D 1, ca hHeld.2.2.1, ca hHeld.2.2.2⟩ (fun hHeld => ?_)
      clear hK K
      refine nrm 43 ?_
      refine la 7 44 (fun K hK => ?_)
      refine Kd.R_append_step k36 w.heap.size (by rfl) (.tmp 38) (.tmp 43) 29 36 (.agg #[(.int .i64 0), (.int .i64 0)]) 16 rfl Try.underlying29 info36 rfl (by decide) (by omega) (.slice (some b1) O.length c3) O (⟨(rd_T36 O 0).f0, (rd_T36 O 0).f1⟩ : S36) [.int .i64 ((rd_T36 O 0).f0), .int .i64 ((rd_T36 O 0).f1)] (fun _ => True) (fun _ => False) rfl rfl ?aP (fun _ hk => hk.elim) ?aF ?aO (Below.refl _ _) ?aS ?aL ?_
      (case aP => exact k36_mkM _ _ _ (⟨(rd_T36 O 0).f0, (rd_T36 O 0).f1⟩ : S36))
      (case aF => exact (fun _ _ => trivial))
      (case aO => exact (rl G.out))
      (case aS => exact (keep_size (w := w) (g := g) (row := none) (ks HK.out)))
      (case aL => have := fN.out; omega)
      intro j0 dx ho hb hg hat
      rw [← fO.out] at ho
      replace s := am (IsS126.grown (iis s.out) hg (IsS126.own_ne s.out G.out (by decide)))
      replace y := gr y G hg
      replace z := gr z G hg
      replace I := am (Kd.R_over' (rl I.out) (Kd.R_typed (rl G.out)) (by decide) hg)
      replace D := gr D G hg
      replace HB := am (below_weaken (bs HB.out) HL.out hb)
      replace HK := am (KeepBut.trans (ks HK.out) (KeepBut.of_grown hg g) (Kd.R_base2 G.out))
      have eg := am ho
      clear G
      clear ho hb hg hat
      obtain ⟨cD, cE, eh⟩ := Kd.R_slice eg.out
      (first | subst eh | (injection eh with bu bP bv; have bQ := bu.symm; have bR := bv.symm; clear bu bP bv; subst bQ; subst bR))
      refine hK.out _ _ ?_
      clear hK K
      refine nrm 44 ?_
      refine pu 8 45 ?_
      refine la0 9 (fun K hK => ?_)
      have j1 : dx.cell? ⟨ad, 0, none⟩ = some (.slice (some b1) O.length c3) := cx D 0
      have j2 := blk_frozen D.out 0
      have j3 := av.out
      have j4 := ax.out
      have j5 := aw.out
      have j6 := ay.out
      refine sk ?_
      refine hK.out _ _ ?_
      clear hK K
      refine dn ?_
      obtain ⟨j7, j8⟩ := bc2 (w := dx) D.out
      have j9 := blk_frozen D.out
      have ka := aI.out
      have kc := aj.out
      obtain ⟨kd, ke⟩ := bc2 (w := dx) z.out
      have kf := blk_frozen z.out
      try go_wp2
      refine bodyPost_ret (results_cell_row rfl _ _ ac 34 #[.slice cD b0.length cE, .slice cz J.length cA] (0, 0) _ rfl (bp z.out rfl) Try.underlying34 rfl (by kernel_rfl)) rfl ?_
      exact ⟨_, _, eqr, Kd.Q_of_R (by (with_reducible repeat (first | apply Kd.R_alloc | apply Kd.R_drewN | apply Kd.R_drew)); exact Kd.R_mono (Kd.R_far (p := ⟨ac, 1, none⟩) (Kd.R_far (p := ⟨ac, 0, none⟩) (Kd.R_far (p := ⟨ad, 0, none⟩) (Kd.R_types (Kd.R_types eg.out D.out (by decide)) z.out (by decide)) (fun _ hk => hk.1.2) (.slice cD b0.length cE)) (fun _ hk => hk.2) (.slice cD b0.length cE)) (fun _ hk => hk.2) (.slice cz J.length cA)) (fun _ hk => trivial)), by (with_reducible repeat (first | apply Kd.R_alloc | apply Kd.R_drewN | apply Kd.R_drew)); exact Kd.R_mono (Kd.R_far (p := ⟨ac, 1, none⟩) (Kd.R_far (p := ⟨ac, 0, none⟩) (Kd.R_far (p := ⟨ad, 0, none⟩) (Kd.R_types (Kd.R_types I.out D.out (by decide)) z.out (by decide)) (fun _ hk => hk.1.2) (.slice cD b0.length cE)) (fun _ hk => hk.2) (.slice cD b0.length cE)) (fun _ hk => hk.2) (.slice cz J.length cA)) (fun _ hk => trivial), iis s.out, bs HB.out, ks HK.out⟩
     ·rw [if_neg c0] at H
      exact absurd H (by simp)
    ·rw [if_neg cZ] at H
     exact absurd H (by simp)
   ·rw [if_neg bZ] at H
    have fL : decide (0 < (O.length : Int)) = false := decide_eq_false bZ
    have fM : decide (0 < O.length) = false := decide_eq_false (by omega)
    clear bZ
    simp only [Option.some.injEq, Prod.mk.injEq] at H
    obtain ⟨rfl, rfl, rfl⟩ := H
    go_enter Try.func88, Try.ntmps88
    go_wp2_with (first | ((with_reducible refine gd 3 rfl ?_); refine bx 3 (cs := #[.slice al Z.length an, .slice ao aa.length ap]) (t := 34) ?_; intro aM hg kg hbox hb; replace HB := hs HB hb; have y := am hbox; have aA := gwk HK hg; have aV := gew ak aA; replace HK := kb HK hb; have ai := nlt s hg; have aH := nsy ai; replace s := ib s hb; clear hb hbox hg) | ((with_reducible refine gd 4 rfl ?_); refine bx 4 (cs := #[.slice none 0 0, .slice none 0 0]) (t := 34) ?_; intro ac hg fW hbox hb; replace HB := hs HB hb; have z := am hbox; have aB := gwk HK hg; have aW := gew ak aB; replace HK := kb HK hb; have aE := nq y hg; have aG := nq' y hg; replace y := bb y hb rfl; have aj := nlt s hg; have aI := nsy aj; replace s := ib s hb; clear hb hbox hg; have kh := aE.out; have ki := aG.out; have kj := aH.out; have km := ai.out; obtain ⟨kn, ko⟩ := bc2 (w := fW) y.out; have kr := blk_frozen y.out) | ((with_reducible refine gc 97 rfl ?_); refine gl 10 Try.func97 #[.agg #[.slice al Z.length an, .slice ao aa.length ap]] ?_; (with_reducible refine (spec_l2Copy.calls _ _ Z _ _ aa O J _ ?T ?X ?ar ?au A3.out).mono ?_); (case T => exact Kd.C_foot_now bc.out (ks HK.out)); (case X => exact be.out); (case ar => exact Kd.C_foot_now bg.out (ks HK.out)); (case au => exact bh.out); rintro e ku ⟨bl, bm, rfl, af, ag, hb⟩; refine ⟨_, rfl, ?_⟩; have G := am (Kd.R_lower af (keep_size (w := w) (g := g) (row := none) (ks HK.out))); have I := am (Kd.R_lower ag (keep_size (w := w) (g := g) (row := none) (ks HK.out))); replace s := ib s hb; replace y := bb y hb rfl; replace z := bb z hb rfl; replace HK := kb HK hb; replace HB := hs HB hb; (try clear af ag hb)) | ((with_reducible refine gd 5 rfl ?_); refine bx 5 (cs := #[.slice none 0 0, .slice none 0 0]) (t := 34) ?_; intro ad hg fX hbox hb; replace G := rb G hb; replace I := rb I hb; replace HB := hs HB hb; have D := am hbox; have aC := gwk HK hg; have aX := gew ak aC; replace HK := kb HK hb; have av := nq y hg; have aw := nq' y hg; replace y := bb y hb rfl; have ax := nq z hg; have ay := nq' z hg; replace z := bb z hb rfl; have ah := nlt s hg; have aD := nsy ah; replace s := ib s hb; clear hb hbox hg; obtain ⟨ei, ej, fY⟩ := Kd.R_slice G.out; subst fY; have kv := aw.out; have kw := av.out; have kx := ay.out; have ky := ax.out; have kz := aD.out; have kA := ah.out; obtain ⟨kB, kC⟩ := bc2 (w := fX) D.out; have kD := blk_frozen D.out; obtain ⟨ek, el, fZ⟩ := Kd.R_slice I.out; subst fZ) | ((with_reducible refine gc 120 rfl ?_); refine gl 18 Try.func120 #[.pointer (some ⟨g, 0, none⟩), .int .i64 60] ?_; (with_reducible refine (spec_l9Rd_pick.calls k g aq aU 60 ab aJ w0 _ ?T ?X A4.out).mono ?_); (case T => exact iis s.out); (case X => exact bs HB.out); rintro e em ⟨rfl, hi, hb, hk⟩; refine ⟨_, rfl, ?_⟩; replace y := kk y hk; replace z := kk z hk; replace G := rp G D s hk; replace I := rp I D s hk; replace D := kp #[.slice ei O.length ej, .slice ek J.length el] D hk; replace HK := kt HK hk; replace HB := am hb; replace s := am hi; (try clear hi hb hk); obtain ⟨kE, kF⟩ := bc2 (w := em) D.out; have kG := blk_frozen D.out; have kH := aI.out; have kI := aj.out; obtain ⟨kJ, kK⟩ := bc2 (w := em) z.out; have kL := blk_frozen z.out))
    refine bodyPost_ret (results_cell_row rfl _ _ ac 34 #[.slice ei O.length ej, .slice ek J.length el] (0, 0) _ rfl (bp z.out rfl) Try.underlying34 rfl (by kernel_rfl)) rfl ?_
    exact ⟨_, _, eqr, Kd.Q_of_R (Kd.R_mono (rt G.out z.out (by decide)) (fun _ hk => trivial)), Kd.R_mono (rt I.out z.out (by decide)) (fun _ hk => trivial), iis s.out, bs HB.out, ks HK.out⟩
  ·rw [if_neg bS] at H
   have fJ : (ab == 1) = false := beq_eq_false_iff_ne.mpr bS
   have fK : (ab != 1) = true := bne_iff_ne.mpr bS
   by_cases bJ : ab = 2
   ·rw [if_pos bJ] at H
    have f3 : (ab == 2) = true := beq_iff_eq.mpr bJ
    have f4 : (ab != 2) = false := bne_eq_false_iff_eq.mpr bJ
    clear bJ
    by_cases b2 : (O.length : Int) > 0
    ·rw [if_pos b2] at H
     have f5 : decide (0 < (O.length : Int)) = true := decide_eq_true b2
     have f6 : decide (0 < O.length) = true := decide_eq_true (by omega)
     clear b2
     by_cases cF : 1 ≤ (O.length : Int)
     ·rw [if_pos cF] at H
      have kM := eq_true cF
      have kN : decide (1 ≤ (O.length : Int)) = true := decide_eq_true cF
      clear cF
      obtain ⟨bD, dy⟩ : ∃ y_ : List (S36), y_ = (O.drop (1 : Int).toNat) := ⟨_, rfl⟩
      replace H : (some (bD, J, aJ)) = some (r1, r2, r3) := by first | (rw [dy]; exact H) | exact H
      have en := am dy
      clear dy
      simp only [Option.some.injEq, Prod.mk.injEq] at H
      obtain ⟨rfl, rfl, rfl⟩ := H
      go_enter Try.func88, Try.ntmps88
      go_wp2_with (first | ((with_reducible refine gd 3 rfl ?_); refine bx 3 (cs := #[.slice al Z.length an, .slice ao aa.length ap]) (t := 34) ?_; intro aM hg kO hbox hb; replace HB := hs HB hb; have y := am hbox; have aA := gwk HK hg; have aV := gew ak aA; replace HK := kb HK hb; have ai := nlt s hg; have aH := nsy ai; replace s := ib s hb; clear hb hbox hg) | ((with_reducible refine gd 4 rfl ?_); refine bx 4 (cs := #[.slice none 0 0, .slice none 0 0]) (t := 34) ?_; intro ac hg f7 hbox hb; replace HB := hs HB hb; have z := am hbox; have aB := gwk HK hg; have aW := gew ak aB; replace HK := kb HK hb; have aE := nq y hg; have aG := nq' y hg; replace y := bb y hb rfl; have aj := nlt s hg; have aI := nsy aj; replace s := ib s hb; clear hb hbox hg; have kP := aE.out; have kQ := aG.out; have kR := aH.out; have kS := ai.out; obtain ⟨kT, kU⟩ := bc2 (w := f7) y.out; have kV := blk_frozen y.out) | ((with_reducible refine gc 97 rfl ?_); refine gl 10 Try.func97 #[.agg #[.slice al Z.length an, .slice ao aa.length ap]] ?_; (with_reducible refine (spec_l2Copy.calls _ _ Z _ _ aa O J _ ?T ?X ?ar ?au A3.out).mono ?_); (case T => exact Kd.C_foot_now bc.out (ks HK.out)); (case X => exact be.out); (case ar => exact Kd.C_foot_now bg.out (ks HK.out)); (case au => exact bh.out); rintro e kW ⟨bl, bm, rfl, af, ag, hb⟩; refine ⟨_, rfl, ?_⟩; have G := am (Kd.R_lower af (keep_size (w := w) (g := g) (row := none) (ks HK.out))); have I := am (Kd.R_lower ag (keep_size (w := w) (g := g) (row := none) (ks HK.out))); replace s := ib s hb; replace y := bb y hb rfl; replace z := bb z hb rfl; replace HK := kb HK hb; replace HB := hs HB hb; (try clear af ag hb)) | ((with_reducible refine gd 5 rfl ?_); refine bx 5 (cs := #[.slice none 0 0, .slice none 0 0]) (t := 34) ?_; intro ad hg f8 hbox hb; replace G := rb G hb; replace I := rb I hb; replace HB := hs HB hb; have D := am hbox; have aC := gwk HK hg; have aX := gew ak aC; replace HK := kb HK hb; have av := nq y hg; have aw := nq' y hg; replace y := bb y hb rfl; have ax := nq z hg; have ay := nq' z hg; replace z := bb z hb rfl; have ah := nlt s hg; have aD := nsy ah; replace s := ib s hb; clear hb hbox hg; obtain ⟨b3, cG, f9⟩ := Kd.R_slice G.out; subst f9; have kX := aw.out; have kY := av.out; have kZ := ay.out; have k0 := ax.out; have k2 := aD.out; have k3 := ah.out; obtain ⟨k4, k5⟩ := bc2 (w := f8) D.out; have k6 := blk_frozen D.out; obtain ⟨c4, c7, ga⟩ := Kd.R_slice I.out; subst ga) | ((with_reducible refine gc 120 rfl ?_); refine gl 18 Try.func120 #[.pointer (some ⟨g, 0, none⟩), .int .i64 60] ?_; (with_reducible refine (spec_l9Rd_pick.calls k g aq aU 60 ab aJ w0 _ ?T ?X A4.out).mono ?_); (case T => exact iis s.out); (case X => exact bs HB.out); rintro e dz ⟨rfl, hi, hb, hk⟩; refine ⟨_, rfl, ?_⟩; replace y := kk y hk; replace z := kk z hk; replace G := rp G D s hk; replace I := rp I D s hk; replace D := kp #[.slice b3 O.length cG, .slice c4 J.length c7] D hk; replace HK := kt HK hk; replace HB := am hb; replace s := am hi; (try clear hi hb hk); obtain ⟨k7, k8⟩ := bc2 (w := dz) D.out; have k9 := blk_frozen D.out; have dA : (1 : Int) ≤ ((O.length : Int) : Int) := oda; obtain ⟨lb, eo, _, ep, _⟩ := info_parts info36; have gb := cut_from (P := Try.prog) 29 36 .i64 Try.underlying29 eo 2 ep b3 O.length cG 1 (by omega) dA; have cH := Kd.Q_drop (k := (1 : Int).toNat) (Kd.Q_of_R G.out) (by omega); obtain ⟨bT, da⟩ : ∃ A1, A1 = (if cG = (1 : Int).toNat then b3 else (b3 : Option Addr).map (·.add ((1 : Int).toNat * 2))) := ⟨_, rfl⟩; obtain ⟨bU, dB⟩ : ∃ c1, c1 = cG - (1 : Int).toNat := ⟨_, rfl⟩; have dC : bD.length = O.length - (1 : Int).toNat := (by rw [en.out, List.length_drop]); rw [← en.out] at cH; rw [← dC, ← da, ← dB] at gb; replace cH : Kd.Q k36 36 dz w.heap.size (fun _ => True) (.slice bT bD.length bU) bD := (by rw [da, dB, dC]; exact cH); have lc : Aside0 ((Value.slice bT bD.length bU).ownBlock = (.slice b3 O.length cG : Value).ownBlock) := ⟨by rw [da]; split <;> (cases (b3 : Option Addr) <;> rfl)⟩; clear dC eo ep G da dB; have gf := am cH; clear cH; replace dA := eq_true dA; have ld := aI.out; have le := aj.out; obtain ⟨lf, lg⟩ := bc2 (w := dz) z.out; have lh := blk_frozen z.out))
      refine bodyPost_ret (results_cell_row rfl _ _ ac 34 #[.slice bT bD.length bU, .slice c4 J.length c7] (0, 0) _ rfl (bp z.out rfl) Try.underlying34 rfl (by kernel_rfl)) rfl ?_
      exact ⟨_, _, eqr, by (with_reducible repeat (first | apply Kd.Q_alloc | apply Kd.Q_drewN | apply Kd.Q_drew)); exact Kd.Q_mono (Kd.Q_far (p := ⟨ac, 1, none⟩) (Kd.Q_far (p := ⟨ac, 0, none⟩) (Kd.Q_far (p := ⟨ad, 0, none⟩) (Kd.Q_types (Kd.Q_types gf.out D.out (by decide)) z.out (by decide)) (fun _ hk => hk.1.2) (.slice bT bD.length bU)) (fun _ hk => hk.2) (.slice bT bD.length bU)) (fun _ hk => hk.2) (.slice c4 J.length c7)) (fun _ hk => trivial), by (with_reducible repeat (first | apply Kd.R_alloc | apply Kd.R_drewN | apply Kd.R_drew)); exact Kd.R_mono (Kd.R_far (p := ⟨ac, 1, none⟩) (Kd.R_far (p := ⟨ac, 0, none⟩) (Kd.R_far (p := ⟨ad, 0, none⟩) (Kd.R_types (Kd.R_types I.out D.out (by decide)) z.out (by decide)) (fun _ hk => hk.1.2) (.slice bT bD.length bU)) (fun _ hk => hk.2) (.slice bT bD.length bU)) (fun _ hk => hk.2) (.slice c4 J.length c7)) (fun _ hk => trivial), iis s.out, bs HB.out, ks HK.out⟩
     ·rw [if_neg cF] at H
      exact absurd H (by simp)
    ·rw [if_neg b2] at H
     have f5 : decide (0 < (O.length : Int)) = false := decide_eq_false b2
     have f6 : decide (0 < O.length) = false := decide_eq_false (by omega)
     clear b2
     simp only [Option.some.injEq, Prod.mk.injEq] at H
     obtain ⟨rfl, rfl, rfl⟩ := H
     go_enter Try.func88, Try.ntmps88
     go_wp2_with (first | ((with_reducible refine gd 3 rfl ?_); refine bx 3 (cs := #[.slice al Z.length an, .slice ao aa.length ap]) (t := 34) ?_; intro aM hg li hbox hb; replace HB := hs HB hb; have y := am hbox; have aA := gwk HK hg; have aV := gew ak aA; replace HK := kb HK hb; have ai := nlt s hg; have aH := nsy ai; replace s := ib s hb; clear hb hbox hg) | ((with_reducible refine gd 4 rfl ?_); refine bx 4 (cs := #[.slice none 0 0, .slice none 0 0]) (t := 34) ?_; intro ac hg gg hbox hb; replace HB := hs HB hb; have z := am hbox; have aB := gwk HK hg; have aW := gew ak aB; replace HK := kb HK hb; have aE := nq y hg; have aG := nq' y hg; replace y := bb y hb rfl; have aj := nlt s hg; have aI := nsy aj; replace s := ib s hb; clear hb hbox hg; have lj := aE.out; have lk := aG.out; have ll := aH.out; have lm := ai.out; obtain ⟨ln, lo⟩ := bc2 (w := gg) y.out; have lp := blk_frozen y.out) | ((with_reducible refine gc 97 rfl ?_); refine gl 10 Try.func97 #[.agg #[.slice al Z.length an, .slice ao aa.length ap]] ?_; (with_reducible refine (spec_l2Copy.calls _ _ Z _ _ aa O J _ ?T ?X ?ar ?au A3.out).mono ?_); (case T => exact Kd.C_foot_now bc.out (ks HK.out)); (case X => exact be.out); (case ar => exact Kd.C_foot_now bg.out (ks HK.out)); (case au => exact bh.out); rintro e lq ⟨bl, bm, rfl, af, ag, hb⟩; refine ⟨_, rfl, ?_⟩; have G := am (Kd.R_lower af (keep_size (w := w) (g := g) (row := none) (ks HK.out))); have I := am (Kd.R_lower ag (keep_size (w := w) (g := g) (row := none) (ks HK.out))); replace s := ib s hb; replace y := bb y hb rfl; replace z := bb z hb rfl; replace HK := kb HK hb; replace HB := hs HB hb; (try clear af ag hb)) | ((with_reducible refine gd 5 rfl ?_); refine bx 5 (cs := #[.slice none 0 0, .slice none 0 0]) (t := 34) ?_; intro ad hg gh hbox hb; replace G := rb G hb; replace I := rb I hb; replace HB := hs HB hb; have D := am hbox; have aC := gwk HK hg; have aX := gew ak aC; replace HK := kb HK hb; have av := nq y hg; have aw := nq' y hg; replace y := bb y hb rfl; have ax := nq z hg; have ay := nq' z hg; replace z := bb z hb rfl; have ah := nlt s hg; have aD := nsy ah; replace s := ib s hb; clear hb hbox hg; obtain ⟨eq, er, gi⟩ := Kd.R_slice G.out; subst gi; have lr := aw.out; have ls := av.out; have lt := ay.out; have lu := ax.out; have lv := aD.out; have lw := ah.out; obtain ⟨lx, ly⟩ := bc2 (w := gh) D.out; have lz := blk_frozen D.out; obtain ⟨es, et, gj⟩ := Kd.R_slice I.out; subst gj) | ((with_reducible refine gc 120 rfl ?_); refine gl 18 Try.func120 #[.pointer (some ⟨g, 0, none⟩), .int .i64 60] ?_; (with_reducible refine (spec_l9Rd_pick.calls k g aq aU 60 ab aJ w0 _ ?T ?X A4.out).mono ?_); (case T => exact iis s.out); (case X => exact bs HB.out); rintro e eu ⟨rfl, hi, hb, hk⟩; refine ⟨_, rfl, ?_⟩; replace y := kk y hk; replace z := kk z hk; replace G := rp G D s hk; replace I := rp I D s hk; replace D := kp #[.slice eq O.length er, .slice es J.length et] D hk; replace HK := kt HK hk; replace HB := am hb; replace s := am hi; (try clear hi hb hk); obtain ⟨lA, lB⟩ := bc2 (w := eu) D.out; have lC := blk_frozen D.out; have lD := aI.out; have lE := aj.out; obtain ⟨lF, lG⟩ := bc2 (w := eu) z.out; have lH := blk_frozen z.out))
     refine bodyPost_ret (results_cell_row rfl _ _ ac 34 #[.slice eq O.length er, .slice es J.length et] (0, 0) _ rfl (bp z.out rfl) Try.underlying34 rfl (by kernel_rfl)) rfl ?_
     exact ⟨_, _, eqr, Kd.Q_of_R (Kd.R_mono (rt G.out z.out (by decide)) (fun _ hk => trivial)), Kd.R_mono (rt I.out z.out (by decide)) (fun _ hk => trivial), iis s.out, bs HB.out, ks HK.out⟩
   ·rw [if_neg bJ] at H
    have f3 : (ab == 2) = false := beq_eq_false_iff_ne.mpr bJ
    have f4 : (ab != 2) = true := bne_iff_ne.mpr bJ
    by_cases bK : ab = 3
    ·rw [if_pos bK] at H
     have ev : (ab == 3) = true := beq_iff_eq.mpr bK
     have ew : (ab != 3) = false := bne_eq_false_iff_eq.mpr bK
     clear bK
     by_cases bV : (J.length : Int) > 0
     ·rw [if_pos bV] at H
      have ex : decide (0 < (J.length : Int)) = true := decide_eq_true bV
      have ey : decide (0 < J.length) = true := decide_eq_true (by omega)
      clear bV
      replace H := Option.bind_eq_some_iff.mp H
      obtain ⟨⟨Y, b4⟩, ez, H⟩ := H
      try dsimp -simprocs only at H
      have eA := am ez
      clear ez
      obtain ⟨bW, dD⟩ : ∃ y_ : List Int, y_ = (([0, 8, (-1), 7] : List Int)) := ⟨_, rfl⟩
      replace H : ((spec_l9Rd_num.f k aq b4 bW).bind fun eB => (if 0 ≤ Y then (if Y < (J.length : Int) then (some (O, (J.set (Y : Int).toNat (⟨eB.1, (⟨(rd_T56 J Y).f1.f0, (rd_T56 J Y).f1.f1⟩ : S36), (⟨(rd_T56 J Y).f2.f0, (rd_T56 J Y).f2.f1⟩ : S36)⟩ : S56)), eB.2)) else (none)) else (none))) = some (r1, r2, r3) := by first | (rw [dD]; exact H) | exact H
      have db := am dD
      clear dD
      replace H := Option.bind_eq_some_iff.mp H
      obtain ⟨⟨aQ, dE⟩, eC, H⟩ := H
      try dsimp -simprocs only at H
      have gm := am eC
      clear eC
      by_cases cI : 0 ≤ Y
      ·rw [if_pos cI] at H
       have lI : decide (0 ≤ Y) = true := decide_eq_true cI
       clear cI
       by_cases cJ : Y < (J.length : Int)
       ·rw [if_pos cJ] at H
        have lJ : decide (Y < (J.length : Int)) = true := decide_eq_true cJ
        clear cJ
        obtain ⟨eD, dF⟩ : ∃ y_ : List (S56), y_ = (J.set (Y : Int).toNat (⟨aQ, (⟨(rd_T56 J Y).f1.f0, (rd_T56 J Y).f1.f1⟩ : S36), (⟨(rd_T56 J Y).f2.f0, (rd_T56 J Y).f2.f1⟩ : S36)⟩ : S56)) := ⟨_, rfl⟩
        replace H : (some (O, eD, dE)) = some (r1, r2, r3) := by first | (rw [dF]; exact H) | exact H
        have gn := am dF
        clear dF
        simp only [Option.some.injEq, Prod.mk.injEq] at H
        obtain ⟨rfl, rfl, rfl⟩ := H
        go_enter Try.func88, Try.ntmps88
        try go_wp2_with (first | ((with_reducible refine gd 3 rfl ?_); refine bx 3 (cs := #[.slice al Z.length an, .slice ao aa.length ap]) (t := 34) ?_; intro aM hg lK hbox hb; replace HB := hs HB hb; have y := am hbox; have aA := gwk HK hg; have aV := gew ak aA; replace HK := kb HK hb; have ai := nlt s hg; have aH := nsy ai; replace s := ib s hb; clear hb hbox hg) | ((with_reducible refine gd 4 rfl ?_); refine bx 4 (cs := #[.slice none 0 0, .slice none 0 0]) (t := 34) ?_; intro ac hg go hbox hb; replace HB := hs HB hb; have z := am hbox; have aB := gwk HK hg; have aW := gew ak aB; replace HK := kb HK hb; have aE := nq y hg; have aG := nq' y hg; replace y := bb y hb rfl; have aj := nlt s hg; have aI := nsy aj; replace s := ib s hb; clear hb hbox hg; have lL := aE.out; have lM := aG.out; have lN := aH.out; have lO := ai.out; obtain ⟨lP, lQ⟩ := bc2 (w := go) y.out; have lR := blk_frozen y.out) | ((with_reducible refine gc 97 rfl ?_); refine gl 10 Try.func97 #[.agg #[.slice al Z.length an, .slice ao aa.length ap]] ?_; (with_reducible refine (spec_l2Copy.calls _ _ Z _ _ aa O J _ ?T ?X ?ar ?au A3.out).mono ?_); (case T => exact Kd.C_foot_now bc.out (ks HK.out)); (case X => exact be.out); (case ar => exact Kd.C_foot_now bg.out (ks HK.out)); (case au => exact bh.out); rintro e lS ⟨bl, bm, rfl, af, ag, hb⟩; refine ⟨_, rfl, ?_⟩; have G := am (Kd.R_lower af (keep_size (w := w) (g := g) (row := none) (ks HK.out))); have I := am (Kd.R_lower ag (keep_size (w := w) (g := g) (row := none) (ks HK.out))); replace s := ib s hb; replace y := bb y hb rfl; replace z := bb z hb rfl; replace HK := kb HK hb; replace HB := hs HB hb; (try clear af ag hb)) | ((with_reducible refine gd 5 rfl ?_); refine bx 5 (cs := #[.slice none 0 0, .slice none 0 0]) (t := 34) ?_; intro ad hg gp hbox hb; replace G := rb G hb; replace I := rb I hb; replace HB := hs HB hb; have D := am hbox; have aC := gwk HK hg; have aX := gew ak aC; replace HK := kb HK hb; have av := nq y hg; have aw := nq' y hg; replace y := bb y hb rfl; have ax := nq z hg; have ay := nq' z hg; replace z := bb z hb rfl; have ah := nlt s hg; have aD := nsy ah; replace s := ib s hb; clear hb hbox hg; obtain ⟨bw, bz, gq⟩ := Kd.R_slice G.out; subst gq; have lT := aw.out; have lU := av.out; have lV := ay.out; have lW := ax.out; have lX := aD.out; have lY := ah.out; obtain ⟨lZ, l1⟩ := bc2 (w := gp) D.out; have l2 := blk_frozen D.out; obtain ⟨bL, bA, gt⟩ := Kd.R_slice I.out; subst gt) | ((with_reducible refine gc 120 rfl ?_); refine gl 18 Try.func120 #[.pointer (some ⟨g, 0, none⟩), .int .i64 60] ?_; (with_reducible refine (spec_l9Rd_pick.calls k g aq aU 60 ab aJ w0 _ ?T ?X A4.out).mono ?_); (case T => exact iis s.out); (case X => exact bs HB.out); rintro e gu ⟨rfl, hi, hb, hk⟩; refine ⟨_, rfl, ?_⟩; replace y := kk y hk; replace z := kk z hk; replace G := rp G D s hk; replace I := rp I D s hk; replace D := kp #[.slice bw O.length bz, .slice bL J.length bA] D hk; replace HK := kt HK hk; replace HB := am hb; replace s := am hi; (try clear hi hb hk)))
        replace G := rd_ G
        replace I := rd_ I
        replace y := bd y
        replace z := bd z
        replace D := bd D
        replace s := am (IsS126.drew s.out)
        replace HK := am (keep_drew HK.out)
        replace HB := hd HB
        refine sta 11 (fun w' => w'.cell? ⟨ad, 0, none⟩ = some (.slice bw O.length bz) ∧ w'.cell? ⟨ad, 1, none⟩ = some (.slice bL J.length bA)) [10] ⟨cx D 0, cx D 1⟩ (fun hHeld => ?_); refine with_tabW spec_l2Bent.tab16 spec_l2Bent.bits16 (fun HT_ HW_ => ?_)
        generalize gu.drew = l3 at G I y z D s HK HB hHeld ⊢
        refine pu 0 58 ?_
        refine pu 2 60 ?_
        refine pu 3 61 ?_
        refine pu 5 63 ?_
        refine tk 1 59 ?_
        refine join_ (σ := Value) 4 #[true, true, true, true, true, true, true, false, false, false, false] (fun s_ => [(62, .int .i64 Y), (64, s_)]) (fun s_ w' => (w'.cell? ⟨ad, 0, none⟩ = some (.slice bw O.length bz) ∧ w'.cell? ⟨ad, 1, none⟩ = some (.slice bL J.length bA)) ∧ (Kd.R k36 36 w' w.heap.size (fun _ => True) (.slice bw O.length bz) O) ∧ (Kd.R k56 56 w' w.heap.size (fun _ => True) (.slice bL J.length bA) J) ∧ (Kd.R (Kd.int .i64) 3 w' w.heap.size (fun _ => True) s_ bW) ∧ (w'.heap[aM]? = some (.cells #[.slice al Z.length an, .slice ao aa.length ap] 34 (0, 0))) ∧ (w'.heap[ac]? = some (.cells #[.slice none 0 0, .slice none 0 0] 34 (0, 0))) ∧ (w'.heap[ad]? = some (.cells #[.slice bw O.length bz, .slice bL J.length bA] 34 (0, 0))) ∧ (IsS126 w0 w' g aq b4) ∧ (KeepBut w w' g none) ∧ (Below w0.heap.size w0 w')) ?_ ?_
        rotate_left
        ·intro hCont
         refine two_ (i := 4) (j := 6) (Ni := some 62) (Nj := some 64) #[true, true, true, true, true, true, false, false, false, false, false] #[true, true, true, true, false, true, true, false, false, false, false] rfl rfl rfl rfl (two_of HT_.out (by kernel_rfl)) (by decide) (by decide) (fun K hK => ?_) (fun K hK => ?_)
         ·skip
          refine gs Try.func120 #[.pointer (some ⟨g, 0, none⟩), .int .i64 (J.length : Int)] ?_
          with_reducible refine (spec_l9Rd_pick.calls k g aq aJ (J.length : Int) Y b4 w0 _ ?T ?X eA.out).mono ?_
          (case T => exact iis s.out)
          (case X => exact bs HB.out)
          rintro e gv ⟨rfl, hi, hb, hk⟩
          refine ⟨_, rfl, ?_⟩
          replace y := kk y hk
          replace z := kk z hk
          replace G := ro G s hk
          replace I := ro I s hk
          replace D := kk D hk
          replace HK := kt HK hk
          replace HB := am hb
          replace s := am hi
          (try clear hb)
          (try clear hb2)
          (try clear hk)
          (try clear hi)
          refine hK.out _ _ ⟨cx D 0, cx D 1⟩ (fun hHeld => ?_)
          clear hK K
          refine nrm 62 ?_
          refine on 6 64 (fun K hK => ?_)
          refine Kd.R_lit_step (Kd.int .i64) _ 3 ?hg (N := 64) ?hd (xs := ([0, 8, (-1), 7] : List Int)) (inner := [.int .i64 0, .int .i64 8, .int .i64 (-1), .int .i64 7]) (ok := fun _ => True) (okp := fun _ => True) ?hr ?hp (fun _ hk => hk) trivial (Below.refl _ _) (Nat.le_refl _) (by simp) ?_; (case hd => rfl); (case hg => rfl); (case hr => first | (go_simp; done) | (go_simp; rfl)); (case hp => exact (Reps.one (show Kd.M (Kd.int .i64) _ _ _ 0 [.int .i64 0] from rfl) (Reps.one (show Kd.M (Kd.int .i64) _ _ _ 8 [.int .i64 8] from rfl) (Reps.one (show Kd.M (Kd.int .i64) _ _ _ (-1) [.int .i64 (-1)] from rfl) (Reps.one (show Kd.M (Kd.int .i64) _ _ _ 7 [.int .i64 7] from rfl) (Reps.none _ _))))))
          intro cK l4 cL hb hg_ hnew_
          clear hg_ hnew_
          (first | rw [← db.out] at cL | (simp only [Int.reduceToNat] at cL; rw [← db.out] at cL))
          replace G := rb G hb
          replace I := rb I hb
          have aT := am (Kd.R_lower cL (keep_size (w := w) (g := g) (row := none) (ks HK.out)))
          replace s := ib s hb
          replace y := bb y hb rfl
          replace z := bb z hb rfl
          replace D := bb D hb rfl
          replace HK := kb HK hb
          replace HB := hs HB hb
          clear hb cL
          refine hK.out _ _ ⟨cx D 0, cx D 1⟩ (fun hHeld => ?_)
          clear hK K
          refine nrm 64 ?_
          exact norm_ (by simp only [putAll, Act.put, List.setIfInBounds_toArray, List.set_cons_zero, List.set_cons_succ]) (hCont (cK) _ ⟨hHeld, (rl G.out), (rl I.out), (rl aT.out), (bf y.out), (bf z.out), (bf D.out), (iis s.out), (ks HK.out), (bs HB.out)⟩)
         ·skip
          refine Kd.R_lit_step (Kd.int .i64) _ 3 ?hg (N := 64) ?hd (xs := ([0, 8, (-1), 7] : List Int)) (inner := [.int .i64 0, .int .i64 8, .int .i64 (-1), .int .i64 7]) (ok := fun _ => True) (okp := fun _ => True) ?hr ?hp (fun _ hk => hk) trivial (Below.refl _ _) (Nat.le_refl _) (by simp) ?_; (case hd => rfl); (case hg => rfl); (case hr => first | (go_simp; done) | (go_simp; rfl)); (case hp => exact (Reps.one (show Kd.M (Kd.int .i64) _ _ _ 0 [.int .i64 0] from rfl) (Reps.one (show Kd.M (Kd.int .i64) _ _ _ 8 [.int .i64 8] from rfl) (Reps.one (show Kd.M (Kd.int .i64) _ _ _ (-1) [.int .i64 (-1)] from rfl) (Reps.one (show Kd.M (Kd.int .i64) _ _ _ 7 [.int .i64 7] from rfl) (Reps.none _ _))))))
          intro cK gv cM hb hg_ hnew_
          clear hg_ hnew_
          (first | rw [← db.out] at cM | (simp only [Int.reduceToNat] at cM; rw [← db.out] at cM))
          replace G := rb G hb
          replace I := rb I hb
          have aT := am (Kd.R_lower cM (keep_size (w := w) (g := g) (row := none) (ks HK.out)))
          replace s := ib s hb
          replace y := bb y hb rfl
          replace z := bb z hb rfl
          replace D := bb D hb rfl
          replace HK := kb HK hb
          replace HB := hs HB hb
          clear hb cM
          refine hK.out _ _ ⟨cx D 0, cx D 1⟩ (fun hHeld => ?_)
          clear hK K
          refine nrm 64 ?_
          refine on 4 62 (fun K hK => ?_)
          refine gs Try.func120 #[.pointer (some ⟨g, 0, none⟩), .int .i64 (J.length : Int)] ?_
          with_reducible refine (spec_l9Rd_pick.calls k g aq aJ (J.length : Int) Y b4 w0 _ ?T ?X eA.out).mono ?_
          (case T => exact iis s.out)
          (case X => exact bs HB.out)
          rintro e l5 ⟨rfl, hi, hb, hk⟩
          refine ⟨_, rfl, ?_⟩
          replace y := kk y hk
          replace z := kk z hk
          replace G := ro G s hk
          replace I := ro I s hk
          replace D := kk D hk
          replace aT := ro aT s hk
          replace HK := kt HK hk
          replace HB := am hb
          replace s := am hi
          (try clear hb)
          (try clear hb2)
          (try clear hk)
          (try clear hi)
          refine hK.out _ _ ⟨cx D 0, cx D 1⟩ (fun hHeld => ?_)
          clear hK K
          refine nrm 62 ?_
          exact norm_ (by simp only [putAll, Act.put, List.setIfInBounds_toArray, List.set_cons_zero, List.set_cons_succ]) (hCont (cK) _ ⟨hHeld, (rl G.out), (rl I.out), (rl aT.out), (bf y.out), (bf z.out), (bf D.out), (iis s.out), (ks HK.out), (bs HB.out)⟩)
        rintro cK bB ⟨hS_, cl, cm, cn, co, cp, ct, cu, cv, cy⟩
        have aY : Aside0 (Kd.R k36 36 bB w.heap.size (fun _ => True) (.slice bw O.length bz) O) := ⟨cl⟩
        have aZ : Aside0 (Kd.R k56 56 bB w.heap.size (fun _ => True) (.slice bL J.length bA) J) := ⟨cm⟩
        have a4 : Aside0 (Kd.R (Kd.int .i64) 3 bB w.heap.size (fun _ => True) cK bW) := ⟨cn⟩
        have a5 : Aside0 (bB.heap[aM]? = some (.cells #[.slice al Z.length an, .slice ao aa.length ap] 34 (0, 0))) := ⟨co⟩
        have a6 : Aside0 (bB.heap[ac]? = some (.cells #[.slice none 0 0, .slice none 0 0] 34 (0, 0))) := ⟨cp⟩
        have a7 : Aside0 (bB.heap[ad]? = some (.cells #[.slice bw O.length bz, .slice bL J.length bA] 34 (0, 0))) := ⟨ct⟩
        have a8 : Aside0 (IsS126 w0 bB g aq b4) := ⟨cu⟩
        have a9 : Aside0 (KeepBut w bB g none) := ⟨cv⟩
        have ba : Aside0 (Below w0.heap.size w0 bB) := ⟨cy⟩
        clear G
        clear I
        clear y
        clear z
        clear D
        clear s
        clear HK
        clear HB
        clear cl cm cn co cp ct cu cv cy
        have G := aY
        have I := aZ
        have aT := a4
        have y := a5
        have z := a6
        have D := a7
        have s := a8
        have HK := a9
        have HB := ba
        clear aY aZ a4 a5 a6 a7 a8 a9 ba
        have hHeld : bB.cell? ⟨ad, 0, none⟩ = some (.slice bw O.length bz) ∧ bB.cell? ⟨ad, 1, none⟩ = some (.slice bL J.length bA) := hS_
        obtain ⟨eE, eF, eG⟩ := Kd.R_slice aT.out
        (first | subst eG | (injection eG with bu bP bv; have bQ := bu.symm; have bR := bv.symm; clear bu bP bv; subst bQ; subst bR))
        refine norm_ (a' := ?_) ?_ ?_
        rotate_left
        ·simp only [putAll, Act.put, List.setIfInBounds_toArray, List.set_cons_zero, List.set_cons_succ]
         rfl
        refine on 7 65 (fun K hK => ?_)
        refine gs Try.func119 #[.pointer (some ⟨g, 0, none⟩), .slice eE bW.length eF] ?_
        with_reducible refine (spec_l9Rd_num.calls k g aq b4 _ _ bW aQ dE w0 _ ?T ?X ?ar ?au ?dl gm.out).mono ?_
        (case T => exact iis s.out)
        (case X => exact bs HB.out)
        (case ar => exact cr aT)
        (case au => exact cc aT)
        (case dl => exact far_slice (IsS126.own_ne s.out aT.out (by decide)))
        rintro e bE ⟨rfl, hi, hb, hk⟩
        refine ⟨_, rfl, ?_⟩
        replace y := kk y hk
        replace z := kk z hk
        replace G := ro G s hk
        replace I := ro I s hk
        replace D := kk D hk
        replace aT := ro aT s hk
        replace HK := kt HK hk
        replace HB := am hb
        replace s := am hi
        (try clear hb)
        (try clear hb2)
        (try clear hk)
        (try clear hi)
        have cN : 0 ≤ (Y : Int) := oda
        have cO : (Y : Int) < ((J.length : Int) : Int) := oda
        obtain ⟨az, l6, eH, eI, gw, l7, eJ⟩ := Kd.R_form I.out (by omega)
        (first | cases eH | (injection eH with ea_ en_ ec_; (first | subst ea_ | (injection ea_ with ea_; subst ea_)); subst ec_; clear en_))
        have eK := am eI
        have eL := am eJ
        clear eI gw eJ
        obtain ⟨l8, gx, eM, b5, b6⟩ := Kd.R_elem I.out z56 (Y : Int) cN cO
        obtain rfl := k56_openM eM
        have gy : World.cell? _ ⟨az, (Y : Int).toNat * 5, none⟩ = some (.int .i64 ((rd_T56 J Y).f0)) := b5 0 _ rfl
        have gz : World.cell? _ ⟨az, (Y : Int).toNat * 5 + 1, none⟩ = some (.int .i64 ((rd_T56 J Y).f1.f0)) := b5 1 _ rfl
        have gA : World.cell? _ ⟨az, (Y : Int).toNat * 5 + 2, none⟩ = some (.int .i64 ((rd_T56 J Y).f1.f1)) := b5 2 _ rfl
        have gB : World.cell? _ ⟨az, (Y : Int).toNat * 5 + 3, none⟩ = some (.int .i64 ((rd_T56 J Y).f2.f0)) := b5 3 _ rfl
        have gC : World.cell? _ ⟨az, (Y : Int).toNat * 5 + 4, none⟩ = some (.int .i64 ((rd_T56 J Y).f2.f1)) := b5 4 _ rfl
        have l9 : World.frozen? _ ⟨az, (Y : Int).toNat * 5, none⟩ = false := b6 0
        have ma : World.frozen? _ ⟨az, (Y : Int).toNat * 5 + 1, none⟩ = false := b6 1
        have mb : World.frozen? _ ⟨az, (Y : Int).toNat * 5 + 2, none⟩ = false := b6 2
        have mc : World.frozen? _ ⟨az, (Y : Int).toNat * 5 + 3, none⟩ = false := b6 3
        have me : World.frozen? _ ⟨az, (Y : Int).toNat * 5 + 4, none⟩ = false := b6 4
        clear gx b5 b6 eM
        replace cN := eq_true cN
        replace cO := eq_true cO
        have gD := am (show g ≠ az from by have h_ := IsS126.own_ne s.out I.out (by decide); intro e_; exact h_ (by rw [e_]; rfl))
        obtain ⟨mf, eN, eO, eP, gE⟩ := Kd.R_elem I.out z56 (Y : Int) (oda) (by have h_ : (Y : Int) < ((J.length : Int) : Int) := oda; first | exact h_ | (have e_ := (Kd.R_reads' I.out).1; omega) | simpa using h_)
        obtain rfl := k56_openM eO
        have dG := (Kd.R_seg I.out (Y : Int) (oda) (by have h_ : (Y : Int) < ((J.length : Int) : Int) := oda; first | exact h_ | (have e_ := (Kd.R_reads' I.out).1; omega) | simpa using h_) (seg := [.int .i64 aQ]) (j := 0) eN eP (show 1 ≤ 5 from by decide) (x' := (⟨aQ, (⟨(rd_T56 J Y).f1.f0, (rd_T56 J Y).f1.f1⟩ : S36), (⟨(rd_T56 J Y).f2.f0, (rd_T56 J Y).f2.f1⟩ : S36)⟩ : S56)) (k56_mkM _ _ _ (⟨aQ, (⟨(rd_T56 J Y).f1.f0, (rd_T56 J Y).f1.f1⟩ : S36), (⟨(rd_T56 J Y).f2.f0, (rd_T56 J Y).f2.f1⟩ : S36)⟩ : S56) ) (fun _ hk => hk)).1
        rw [← gn.out] at dG
        have gF := am dG
        clear eN eP gE eO dG
        refine hK.out _ _ ⟨cx D 0, cx D 1⟩ (fun hHeld => ?_)
        clear hK K
        refine nrm 65 ?_
        refine pu 8 66 ?_
        refine pu 9 67 ?_
        refine la0 10 (fun K hK => ?_)
        refine sk ?_
        refine hK.out _ _ ?_
        clear hK K
        refine dn ?_
        have aY : Aside0 (Kd.R k36 36 (bE.setCell ⟨az, (Y : Int).toNat * 5, none⟩ (.int .i64 aQ)) w.heap.size (fun _ => True) (.slice bw O.length bz) O) := ⟨by (with_reducible repeat (first | apply Kd.R_alloc | apply Kd.R_drewN | apply Kd.R_drew)); exact Kd.R_mono (Kd.R_far (p := ⟨az, (Y : Int).toNat * 5, none⟩) (Kd.R_types G.out eL.out (by decide)) (fun _ hk => hk.2) (.int .i64 aQ)) (fun _ hk => trivial)⟩
        have aZ : Aside0 (Kd.R k56 56 (bE.setCell ⟨az, (Y : Int).toNat * 5, none⟩ (.int .i64 aQ)) w.heap.size (fun _ => True) (.slice (some ⟨az, 0, none⟩) J.length bA) eD) := ⟨by (with_reducible repeat (first | apply Kd.R_alloc | apply Kd.R_drewN | apply Kd.R_drew)); exact gF.out⟩
        have a4 : Aside0 (Kd.R (Kd.int .i64) 3 (bE.setCell ⟨az, (Y : Int).toNat * 5, none⟩ (.int .i64 aQ)) w.heap.size (fun _ => True) (.slice eE bW.length eF) bW) := ⟨by (with_reducible repeat (first | apply Kd.R_alloc | apply Kd.R_drewN | apply Kd.R_drew)); exact Kd.R_mono (Kd.R_far (p := ⟨az, (Y : Int).toNat * 5, none⟩) (Kd.R_types aT.out eL.out (by decide)) (fun _ hk => hk.2) (.int .i64 aQ)) (fun _ hk => trivial)⟩
        have a5 : Aside0 ((bE.setCell ⟨az, (Y : Int).toNat * 5, none⟩ (.int .i64 aQ)).heap[aM]? = some (.cells #[.slice al Z.length an, .slice ao aa.length ap] 34 (0, 0))) := ⟨by (with_reducible repeat (first | refine blk_drewN ?_ _ | refine blk_drew ?_ | refine blk_alloc ?_ _)); refine blk_far ?_ (by have h_ := Kd.R_ne I.out y.out (by decide); intro e_; exact h_ (by rw [e_]; rfl)) _; exact bf y.out⟩
        have a6 : Aside0 ((bE.setCell ⟨az, (Y : Int).toNat * 5, none⟩ (.int .i64 aQ)).heap[ac]? = some (.cells #[.slice none 0 0, .slice none 0 0] 34 (0, 0))) := ⟨by (with_reducible repeat (first | refine blk_drewN ?_ _ | refine blk_drew ?_ | refine blk_alloc ?_ _)); refine blk_far ?_ (by have h_ := Kd.R_ne I.out z.out (by decide); intro e_; exact h_ (by rw [e_]; rfl)) _; exact bf z.out⟩
        have a7 : Aside0 ((bE.setCell ⟨az, (Y : Int).toNat * 5, none⟩ (.int .i64 aQ)).heap[ad]? = some (.cells #[.slice bw O.length bz, .slice (some ⟨az, 0, none⟩) J.length bA] 34 (0, 0))) := ⟨by (with_reducible repeat (first | refine blk_drewN ?_ _ | refine blk_drew ?_ | refine blk_alloc ?_ _)); refine blk_far ?_ (by have h_ := Kd.R_ne I.out D.out (by decide); intro e_; exact h_ (by rw [e_]; rfl)) _; exact bf D.out⟩
        have a8 : Aside0 (IsS126 w0 (bE.setCell ⟨az, (Y : Int).toNat * 5, none⟩ (.int .i64 aQ)) g aq dE) := ⟨by repeat (first | (with_reducible first | exact s.out | apply IsS126.alloc | apply IsS126.drewN | apply IsS126.drew | apply IsS126.set_1 | refine IsS126.far ?_ gD.out _ | refine IsS126.far ?_ ai.out _ | refine IsS126.far ?_ aj.out _ | refine IsS126.far ?_ ah.out _) | exact s.out)⟩
        have a9 : Aside0 (KeepBut w (bE.setCell ⟨az, (Y : Int).toNat * 5, none⟩ (.int .i64 aQ)) g none) := ⟨by repeat (first | (with_reducible first | exact HK.out | apply KeepBut.set_ | apply keep_drewN | apply keep_drew | apply keep_alloc | refine keep_far ?_ eK.out _ | refine keep_far ?_ aA.out _ | refine keep_far ?_ aB.out _ | refine keep_far ?_ aC.out _) | exact HK.out)⟩
        have ba : Aside0 (Below w0.heap.size w0 (bE.setCell ⟨az, (Y : Int).toNat * 5, none⟩ (.int .i64 aQ))) := ⟨by repeat (first | (with_reducible first | exact HB.out | apply below_alloc | apply pw_below_drewN | apply below_drew1 | refine below_set ?_ (Nat.le_trans HL.out eK.out) | refine below_set ?_ (IsS126.ge s.out) | refine below_set ?_ aV.out | refine below_set ?_ aW.out | refine below_set ?_ aX.out) | exact HB.out)⟩
        (try clear G)
        (try clear I)
        (try clear aT)
        (try clear y)
        (try clear z)
        (try clear D)
        (try clear s)
        (try clear HK)
        (try clear HB)
        generalize (bE.setCell ⟨az, (Y : Int).toNat * 5, none⟩ (.int .i64 aQ)) = eQ at aY aZ a4 a5 a6 a7 a8 a9 ba ⊢
        have G := aY
        have I := aZ
        have aT := a4
        have y := a5
        have z := a6
        have D := a7
        have s := a8
        have HK := a9
        have HB := ba
        clear aY aZ a4 a5 a6 a7 a8 a9 ba
        obtain ⟨gG, gH⟩ := bc2 (w := eQ) D.out
        have gI := blk_frozen D.out
        have mg := aI.out
        have mh := aj.out
        obtain ⟨gJ, gK⟩ := bc2 (w := eQ) z.out
        have gL := blk_frozen z.out
        try go_wp2
        refine bodyPost_ret (results_cell_row rfl _ _ ac 34 #[.slice bw O.length bz, .slice (some ⟨az, 0, none⟩) J.length bA] (0, 0) _ rfl (bp z.out rfl) Try.underlying34 rfl (by kernel_rfl)) rfl ?_
        exact ⟨_, _, eqr, Kd.Q_of_R (Kd.R_mono (rt G.out z.out (by decide)) (fun _ hk => trivial)), Kd.R_mono (rt I.out z.out (by decide)) (fun _ hk => trivial), iis s.out, bs HB.out, ks HK.out⟩
       ·rw [if_neg cJ] at H
        exact absurd H (by simp)
      ·rw [if_neg cI] at H
       exact absurd H (by simp)
     ·rw [if_neg bV] at H
      have ex : decide (0 < (J.length : Int)) = false := decide_eq_false bV
      have ey : decide (0 < J.length) = false := decide_eq_false (by omega)
      clear bV
      simp only [Option.some.injEq, Prod.mk.injEq] at H
      obtain ⟨rfl, rfl, rfl⟩ := H
      go_enter Try.func88, Try.ntmps88
      go_wp2_with (first | ((with_reducible refine gd 3 rfl ?_); refine bx 3 (cs := #[.slice al Z.length an, .slice ao aa.length ap]) (t := 34) ?_; intro aM hg mi hbox hb; replace HB := hs HB hb; have y := am hbox; have aA := gwk HK hg; have aV := gew ak aA; replace HK := kb HK hb; have ai := nlt s hg; have aH := nsy ai; replace s := ib s hb; clear hb hbox hg) | ((with_reducible refine gd 4 rfl ?_); refine bx 4 (cs := #[.slice none 0 0, .slice none 0 0]) (t := 34) ?_; intro ac hg gM hbox hb; replace HB := hs HB hb; have z := am hbox; have aB := gwk HK hg; have aW := gew ak aB; replace HK := kb HK hb; have aE := nq y hg; have aG := nq' y hg; replace y := bb y hb rfl; have aj := nlt s hg; have aI := nsy aj; replace s := ib s hb; clear hb hbox hg; have mj := aE.out; have ml := aG.out; have mm := aH.out; have mn := ai.out; obtain ⟨gN, gO⟩ := bc2 (w := gM) y.out; have gP := blk_frozen y.out) | ((with_reducible refine gc 97 rfl ?_); refine gl 10 Try.func97 #[.agg #[.slice al Z.length an, .slice ao aa.length ap]] ?_; (with_reducible refine (spec_l2Copy.calls _ _ Z _ _ aa O J _ ?T ?X ?ar ?au A3.out).mono ?_); (case T => exact Kd.C_foot_now bc.out (ks HK.out)); (case X => exact be.out); (case ar => exact Kd.C_foot_now bg.out (ks HK.out)); (case au => exact bh.out); rintro e mo ⟨bl, bm, rfl, af, ag, hb⟩; refine ⟨_, rfl, ?_⟩; have G := am (Kd.R_lower af (keep_size (w := w) (g := g) (row := none) (ks HK.out))); have I := am (Kd.R_lower ag (keep_size (w := w) (g := g) (row := none) (ks HK.out))); replace s := ib s hb; replace y := bb y hb rfl; replace z := bb z hb rfl; replace HK := kb HK hb; replace HB := hs HB hb; (try clear af ag hb)) | ((with_reducible refine gd 5 rfl ?_); refine bx 5 (cs := #[.slice none 0 0, .slice none 0 0]) (t := 34) ?_; intro ad hg gQ hbox hb; replace G := rb G hb; replace I := rb I hb; replace HB := hs HB hb; have D := am hbox; have aC := gwk HK hg; have aX := gew ak aC; replace HK := kb HK hb; have av := nq y hg; have aw := nq' y hg; replace y := bb y hb rfl; have ax := nq z hg; have ay := nq' z hg; replace z := bb z hb rfl; have ah := nlt s hg; have aD := nsy ah; replace s := ib s hb; clear hb hbox hg; obtain ⟨eR, eS, gR⟩ := Kd.R_slice G.out; subst gR; have mq := aw.out; have mr := av.out; have ms := ay.out; have mt := ax.out; have mu := aD.out; have mv := ah.out; obtain ⟨gS, gT⟩ := bc2 (w := gQ) D.out; have gU := blk_frozen D.out; obtain ⟨eT, eU, gV⟩ := Kd.R_slice I.out; subst gV) | ((with_reducible refine gc 120 rfl ?_); refine gl 18 Try.func120 #[.pointer (some ⟨g, 0, none⟩), .int .i64 60] ?_; (with_reducible refine (spec_l9Rd_pick.calls k g aq aU 60 ab aJ w0 _ ?T ?X A4.out).mono ?_); (case T => exact iis s.out); (case X => exact bs HB.out); rintro e eV ⟨rfl, hi, hb, hk⟩; refine ⟨_, rfl, ?_⟩; replace y := kk y hk; replace z := kk z hk; replace G := rp G D s hk; replace I := rp I D s hk; replace D := kp #[.slice eR O.length eS, .slice eT J.length eU] D hk; replace HK := kt HK hk; replace HB := am hb; replace s := am hi; (try clear hi hb hk); obtain ⟨gW, gX⟩ := bc2 (w := eV) D.out; have gY := blk_frozen D.out; have mw := aI.out; have mx := aj.out; obtain ⟨gZ, g0⟩ := bc2 (w := eV) z.out; have g1 := blk_frozen z.out))
      refine bodyPost_ret (results_cell_row rfl _ _ ac 34 #[.slice eR O.length eS, .slice eT J.length eU] (0, 0) _ rfl (bp z.out rfl) Try.underlying34 rfl (by kernel_rfl)) rfl ?_
      exact ⟨_, _, eqr, Kd.Q_of_R (Kd.R_mono (rt G.out z.out (by decide)) (fun _ hk => trivial)), Kd.R_mono (rt I.out z.out (by decide)) (fun _ hk => trivial), iis s.out, bs HB.out, ks HK.out⟩
    ·rw [if_neg bK] at H
     have ev : (ab == 3) = false := beq_eq_false_iff_ne.mpr bK
     have ew : (ab != 3) = true := bne_iff_ne.mpr bK
     by_cases bM : ab = 4
     ·rw [if_pos bM] at H
      have eW : (ab == 4) = true := beq_iff_eq.mpr bM
      have eX : (ab != 4) = false := bne_eq_false_iff_eq.mpr bM
      clear bM
      by_cases bX : (J.length : Int) > 0
      ·rw [if_pos bX] at H
       have eY : decide (0 < (J.length : Int)) = true := decide_eq_true bX
       have eZ : decide (0 < J.length) = true := decide_eq_true (by omega)
       clear bX
       by_cases cP : 0 < (J.length : Int)
       ·rw [if_pos cP] at H
        have g2 : decide (0 < (J.length : Int)) = true := decide_eq_true cP
        have g3 : decide (0 < J.length) = true := decide_eq_true (by omega)
        clear cP
        by_cases cQ : J.length < 3518437208883
        ·rw [if_pos cQ] at H
         have g4 := am cQ
         clear cQ
         obtain ⟨b7, dH⟩ : ∃ y_ : List (S56), y_ = (J ++ [(⟨(rd_T56 J 0).f0, (⟨(rd_T56 J 0).f1.f0, (rd_T56 J 0).f1.f1⟩ : S36), (⟨(rd_T56 J 0).f2.f0, (rd_T56 J 0).f2.f1⟩ : S36)⟩ : S56)]) := ⟨_, rfl⟩
         replace H : (some (O, b7, aJ)) = some (r1, r2, r3) := by first | (rw [dH]; exact H) | exact H
         have g5 := am dH
         clear dH
         simp only [Option.some.injEq, Prod.mk.injEq] at H
         obtain ⟨rfl, rfl, rfl⟩ := H
         go_enter Try.func88, Try.ntmps88
         try go_wp2_with (first | ((with_reducible refine gd 3 rfl ?_); refine bx 3 (cs := #[.slice al Z.length an, .slice ao aa.length ap]) (t := 34) ?_; intro aM hg my hbox hb; replace HB := hs HB hb; have y := am hbox; have aA := gwk HK hg; have aV := gew ak aA; replace HK := kb HK hb; have ai := nlt s hg; have aH := nsy ai; replace s := ib s hb; clear hb hbox hg) | ((with_reducible refine gd 4 rfl ?_); refine bx 4 (cs := #[.slice none 0 0, .slice none 0 0]) (t := 34) ?_; intro ac hg g6 hbox hb; replace HB := hs HB hb; have z := am hbox; have aB := gwk HK hg; have aW := gew ak aB; replace HK := kb HK hb; have aE := nq y hg; have aG := nq' y hg; replace y := bb y hb rfl; have aj := nlt s hg; have aI := nsy aj; replace s := ib s hb; clear hb hbox hg; have mz := aE.out; have mA := aG.out; have mB := aH.out; have mC := ai.out; obtain ⟨g7, g8⟩ := bc2 (w := g6) y.out; have g9 := blk_frozen y.out) | ((with_reducible refine gc 97 rfl ?_); refine gl 10 Try.func97 #[.agg #[.slice al Z.length an, .slice ao aa.length ap]] ?_; (with_reducible refine (spec_l2Copy.calls _ _ Z _ _ aa O J _ ?T ?X ?ar ?au A3.out).mono ?_); (case T => exact Kd.C_foot_now bc.out (ks HK.out)); (case X => exact be.out); (case ar => exact Kd.C_foot_now bg.out (ks HK.out)); (case au => exact bh.out); rintro e mD ⟨bl, bm, rfl, af, ag, hb⟩; refine ⟨_, rfl, ?_⟩; have G := am (Kd.R_lower af (keep_size (w := w) (g := g) (row := none) (ks HK.out))); have I := am (Kd.R_lower ag (keep_size (w := w) (g := g) (row := none) (ks HK.out))); replace s := ib s hb; replace y := bb y hb rfl; replace z := bb z hb rfl; replace HK := kb HK hb; replace HB := hs HB hb; (try clear af ag hb)) | ((with_reducible refine gd 5 rfl ?_); refine bx 5 (cs := #[.slice none 0 0, .slice none 0 0]) (t := 34) ?_; intro ad hg hh hbox hb; replace G := rb G hb; replace I := rb I hb; replace HB := hs HB hb; have D := am hbox; have aC := gwk HK hg; have aX := gew ak aC; replace HK := kb HK hb; have av := nq y hg; have aw := nq' y hg; replace y := bb y hb rfl; have ax := nq z hg; have ay := nq' z hg; replace z := bb z hb rfl; have ah := nlt s hg; have aD := nsy ah; replace s := ib s hb; clear hb hbox hg; obtain ⟨cR, cS, hj⟩ := Kd.R_slice G.out; subst hj; have mE := aw.out; have mF := av.out; have mG := ay.out; have mH := ax.out; have mI := aD.out; have mJ := ah.out; obtain ⟨hu, hv⟩ := bc2 (w := hh) D.out; have hx := blk_frozen D.out; obtain ⟨hy, dc, hz⟩ := Kd.R_slice I.out; subst hz) | ((with_reducible refine gc 120 rfl ?_); refine gl 18 Try.func120 #[.pointer (some ⟨g, 0, none⟩), .int .i64 60] ?_; (with_reducible refine (spec_l9Rd_pick.calls k g aq aU 60 ab aJ w0 _ ?T ?X A4.out).mono ?_); (case T => exact iis s.out); (case X => exact bs HB.out); rintro e hA ⟨rfl, hi, hb, hk⟩; refine ⟨_, rfl, ?_⟩; replace y := kk y hk; replace z := kk z hk; replace G := rp G D s hk; replace I := rp I D s hk; replace D := kp #[.slice cR O.length cS, .slice hy J.length dc] D hk; replace HK := kt HK hk; replace HB := am hb; replace s := am hi; (try clear hi hb hk)))
         replace G := rd_ G
         replace I := rd_ I
         replace y := bd y
         replace z := bd z
         replace D := bd D
         replace s := am (IsS126.drew s.out)
         replace HK := am (keep_drew HK.out)
         replace HB := hd HB
         have dd : 0 ≤ (0 : Int) := (by omega)
         have de : 0 < (J.length : Int) := oda
         obtain ⟨bi, hC, b8, b9, ce, cf, cg⟩ := at_T56 (Kd.R_reads' I.out).2.2 0 dd de
         cases hC
         have mK : (0 < J.length) = True := eq_true (by omega)
         (try rw [show ((0 : Int)).toNat = 0 from rfl] at b8)
         (try rw [show 0 * 5 = 0 from rfl] at b8)
         (try rw [Addr.add_zero'] at b8)
         (try rw [show ((0 : Int)).toNat = 0 from rfl] at b9)
         (try rw [show 0 * 5 = 0 from rfl] at b9)
         (try rw [Addr.add_zero'] at b9)
         (try rw [show ((0 : Int)).toNat = 0 from rfl] at ce)
         (try rw [show 0 * 5 = 0 from rfl] at ce)
         (try rw [Addr.add_zero'] at ce)
         (try rw [show ((0 : Int)).toNat = 0 from rfl] at cf)
         (try rw [show 0 * 5 = 0 from rfl] at cf)
         (try rw [Addr.add_zero'] at cf)
         (try rw [show ((0 : Int)).toNat = 0 from rfl] at cg)
         (try rw [show 0 * 5 = 0 from rfl] at cg)
         (try rw [Addr.add_zero'] at cg)
         replace dd := eq_true dd
         replace de := eq_true de
         refine sta 10 (fun w' => w'.cell? ⟨ad, 0, none⟩ = some (.slice cR O.length cS) ∧ w'.cell? ⟨ad, 1, none⟩ = some (.slice (some bi) J.length dc) ∧ w'.cell? bi = some (.int .i64 ((rd_T56 J 0).f0)) ∧ w'.cell? ⟨bi.block, bi.off + 1, none⟩ = some (.int .i64 ((rd_T56 J 0).f1.f0)) ∧ w'.cell? ⟨bi.block, bi.off + 2, none⟩ = some (.int .i64 ((rd_T56 J 0).f1.f1)) ∧ w'.cell? ⟨bi.block, bi.off + 3, none⟩ = some (.int .i64 ((rd_T56 J 0).f2.f0)) ∧ w'.cell? ⟨bi.block, bi.off + 4, none⟩ = some (.int .i64 ((rd_T56 J 0).f2.f1))) [7, 9] ⟨cx D 0, cx D 1, b8, b9, ce, cf, cg⟩ (fun hHeld => ?_); refine with_tabW spec_l2Bent.tab19 spec_l2Bent.bits19 (fun HT_ HW_ => ?_)
         generalize hA.drew = mL at G I y z D s HK HB b8 b9 ce cf cg hHeld ⊢
         refine pu 0 72 ?_
         refine pu 2 74 ?_
         refine tk 1 73 ?_
         refine tk 3 75 ?_
         refine pu 4 76 ?_
         refine tk 5 77 ?_
         refine on 6 78 (fun K hK => ?_)
         refine va ?_
         refine hK.out _ _ ⟨cx D 0, cx D 1, ca hHeld.2.2.1, ca hHeld.2.2.2.1, ca hHeld.2.2.2.2.1, ca hHeld.2.2.2.2.2.1, ca hHeld.2.2.2.2.2.2⟩ (fun hHeld => ?_)
         clear hK K
         refine nrm 78 ?_
         refine la 7 79 (fun K hK => ?_)
         refine Kd.R_append_step k56 w.heap.size (by rfl) (.tmp 73) (.tmp 78) 32 56 (.agg #[(.int .i64 0), (.int .i64 0), (.int .i64 0), (.int .i64 0), (.int .i64 0)]) 40 rfl Try.underlying32 info56 rfl (by decide) (by omega) (.slice (some bi) J.length dc) J (⟨(rd_T56 J 0).f0, (⟨(rd_T56 J 0).f1.f0, (rd_T56 J 0).f1.f1⟩ : S36), (⟨(rd_T56 J 0).f2.f0, (rd_T56 J 0).f2.f1⟩ : S36)⟩ : S56) [.int .i64 ((rd_T56 J 0).f0), .int .i64 ((rd_T56 J 0).f1.f0), .int .i64 ((rd_T56 J 0).f1.f1), .int .i64 ((rd_T56 J 0).f2.f0), .int .i64 ((rd_T56 J 0).f2.f1)] (fun _ => True) (fun _ => False) rfl rfl ?aP (fun _ hk => hk.elim) ?aF ?aO (Below.refl _ _) ?aS ?aL ?_
         (case aP => exact k56_mkM _ _ _ (⟨(rd_T56 J 0).f0, (⟨(rd_T56 J 0).f1.f0, (rd_T56 J 0).f1.f1⟩ : S36), (⟨(rd_T56 J 0).f2.f0, (rd_T56 J 0).f2.f1⟩ : S36)⟩ : S56))
         (case aF => exact (fun _ _ => trivial))
         (case aO => exact (rl I.out))
         (case aS => exact (keep_size (w := w) (g := g) (row := none) (ks HK.out)))
         (case aL => have := g4.out; omega)
         intro mM dI ho hb hg hat
         rw [← g5.out] at ho
         replace s := am (IsS126.grown (iis s.out) hg (IsS126.own_ne s.out I.out (by decide)))
         replace y := gr y I hg
         replace z := gr z I hg
         replace G := am (Kd.R_over' (rl G.out) (Kd.R_typed (rl I.out)) (by decide) hg)
         replace D := gr D I hg
         replace HB := am (below_weaken (bs HB.out) HL.out hb)
         replace HK := am (KeepBut.trans (ks HK.out) (KeepBut.of_grown hg g) (Kd.R_base2 I.out))
         have e0 := am ho
         clear I
         clear ho hb hg hat
         obtain ⟨cT, cU, e1⟩ := Kd.R_slice e0.out
         (first | subst e1 | (injection e1 with bu bP bv; have bQ := bu.symm; have bR := bv.symm; clear bu bP bv; subst bQ; subst bR))
         refine hK.out _ _ ?_
         clear hK K
         refine nrm 79 ?_
         refine pu 8 80 ?_
         refine la0 9 (fun K hK => ?_)
         have mN : dI.cell? ⟨ad, 1, none⟩ = some (.slice (some bi) J.length dc) := cx D 1
         have mO := blk_frozen D.out 1
         have mP := av.out
         have mQ := ax.out
         have mR := aw.out
         have mS := ay.out
         refine sk ?_
         refine hK.out _ _ ?_
         clear hK K
         refine dn ?_
         obtain ⟨hD, hE⟩ := bc2 (w := dI) D.out
         have hF := blk_frozen D.out
         have mT := aI.out
         have mU := aj.out
         obtain ⟨hG, hH⟩ := bc2 (w := dI) z.out
         have hJ := blk_frozen z.out
         try go_wp2
         refine bodyPost_ret (results_cell_row rfl _ _ ac 34 #[.slice cR O.length cS, .slice cT b7.length cU] (0, 0) _ rfl (bp z.out rfl) Try.underlying34 rfl (by kernel_rfl)) rfl ?_
         exact ⟨_, _, eqr, Kd.Q_of_R (by (with_reducible repeat (first | apply Kd.R_alloc | apply Kd.R_drewN | apply Kd.R_drew)); exact Kd.R_mono (Kd.R_far (p := ⟨ac, 1, none⟩) (Kd.R_far (p := ⟨ac, 0, none⟩) (Kd.R_far (p := ⟨ad, 1, none⟩) (Kd.R_types (Kd.R_types G.out D.out (by decide)) z.out (by decide)) (fun _ hk => hk.1.2) (.slice cT b7.length cU)) (fun _ hk => hk.2) (.slice cR O.length cS)) (fun _ hk => hk.2) (.slice cT b7.length cU)) (fun _ hk => trivial)), by (with_reducible repeat (first | apply Kd.R_alloc | apply Kd.R_drewN | apply Kd.R_drew)); exact Kd.R_mono (Kd.R_far (p := ⟨ac, 1, none⟩) (Kd.R_far (p := ⟨ac, 0, none⟩) (Kd.R_far (p := ⟨ad, 1, none⟩) (Kd.R_types (Kd.R_types e0.out D.out (by decide)) z.out (by decide)) (fun _ hk => hk.1.2) (.slice cT b7.length cU)) (fun _ hk => hk.2) (.slice cR O.length cS)) (fun _ hk => hk.2) (.slice cT b7.length cU)) (fun _ hk => trivial), iis s.out, bs HB.out, ks HK.out⟩
        ·rw [if_neg cQ] at H
         exact absurd H (by simp)
       ·rw [if_neg cP] at H
        exact absurd H (by simp)
      ·rw [if_neg bX] at H
       have eY : decide (0 < (J.length : Int)) = false := decide_eq_false bX
       have eZ : decide (0 < J.length) = false := decide_eq_false (by omega)
       clear bX
       simp only [Option.some.injEq, Prod.mk.injEq] at H
       obtain ⟨rfl, rfl, rfl⟩ := H
       go_enter Try.func88, Try.ntmps88
       go_wp2_with (first | ((with_reducible refine gd 3 rfl ?_); refine bx 3 (cs := #[.slice al Z.length an, .slice ao aa.length ap]) (t := 34) ?_; intro aM hg mV hbox hb; replace HB := hs HB hb; have y := am hbox; have aA := gwk HK hg; have aV := gew ak aA; replace HK := kb HK hb; have ai := nlt s hg; have aH := nsy ai; replace s := ib s hb; clear hb hbox hg) | ((with_reducible refine gd 4 rfl ?_); refine bx 4 (cs := #[.slice none 0 0, .slice none 0 0]) (t := 34) ?_; intro ac hg hL hbox hb; replace HB := hs HB hb; have z := am hbox; have aB := gwk HK hg; have aW := gew ak aB; replace HK := kb HK hb; have aE := nq y hg; have aG := nq' y hg; replace y := bb y hb rfl; have aj := nlt s hg; have aI := nsy aj; replace s := ib s hb; clear hb hbox hg; have mW := aE.out; have mX := aG.out; have mY := aH.out; have mZ := ai.out; obtain ⟨hM, hO⟩ := bc2 (w := hL) y.out; have hP := blk_frozen y.out) | ((with_reducible refine gc 97 rfl ?_); refine gl 10 Try.func97 #[.agg #[.slice al Z.length an, .slice ao aa.length ap]] ?_; (with_reducible refine (spec_l2Copy.calls _ _ Z _ _ aa O J _ ?T ?X ?ar ?au A3.out).mono ?_); (case T => exact Kd.C_foot_now bc.out (ks HK.out)); (case X => exact be.out); (case ar => exact Kd.C_foot_now bg.out (ks HK.out)); (case au => exact bh.out); rintro e m0 ⟨bl, bm, rfl, af, ag, hb⟩; refine ⟨_, rfl, ?_⟩; have G := am (Kd.R_lower af (keep_size (w := w) (g := g) (row := none) (ks HK.out))); have I := am (Kd.R_lower ag (keep_size (w := w) (g := g) (row := none) (ks HK.out))); replace s := ib s hb; replace y := bb y hb rfl; replace z := bb z hb rfl; replace HK := kb HK hb; replace HB := hs HB hb; (try clear af ag hb)) | ((with_reducible refine gd 5 rfl ?_); refine bx 5 (cs := #[.slice none 0 0, .slice none 0 0]) (t := 34) ?_; intro ad hg hR hbox hb; replace G := rb G hb; replace I := rb I hb; replace HB := hs HB hb; have D := am hbox; have aC := gwk HK hg; have aX := gew ak aC; replace HK := kb HK hb; have av := nq y hg; have aw := nq' y hg; replace y := bb y hb rfl; have ax := nq z hg; have ay := nq' z hg; replace z := bb z hb rfl; have ah := nlt s hg; have aD := nsy ah; replace s := ib s hb; clear hb hbox hg; obtain ⟨e2, e3, hT⟩ := Kd.R_slice G.out; subst hT; have m1 := aw.out; have m2 := av.out; have m3 := ay.out; have m4 := ax.out; have m5 := aD.out; have m6 := ah.out; obtain ⟨hU, hV⟩ := bc2 (w := hR) D.out; have hW := blk_frozen D.out; obtain ⟨e4, e5, hX⟩ := Kd.R_slice I.out; subst hX) | ((with_reducible refine gc 120 rfl ?_); refine gl 18 Try.func120 #[.pointer (some ⟨g, 0, none⟩), .int .i64 60] ?_; (with_reducible refine (spec_l9Rd_pick.calls k g aq aU 60 ab aJ w0 _ ?T ?X A4.out).mono ?_); (case T => exact iis s.out); (case X => exact bs HB.out); rintro e e6 ⟨rfl, hi, hb, hk⟩; refine ⟨_, rfl, ?_⟩; replace y := kk y hk; replace z := kk z hk; replace G := rp G D s hk; replace I := rp I D s hk; replace D := kp #[.slice e2 O.length e3, .slice e4 J.length e5] D hk; replace HK := kt HK hk; replace HB := am hb; replace s := am hi; (try clear hi hb hk); obtain ⟨hY, hZ⟩ := bc2 (w := e6) D.out; have h0 := blk_frozen D.out; have m7 := aI.out; have m8 := aj.out; obtain ⟨h1, h2⟩ := bc2 (w := e6) z.out; have h3 := blk_frozen z.out))
       refine bodyPost_ret (results_cell_row rfl _ _ ac 34 #[.slice e2 O.length e3, .slice e4 J.length e5] (0, 0) _ rfl (bp z.out rfl) Try.underlying34 rfl (by kernel_rfl)) rfl ?_
       exact ⟨_, _, eqr, Kd.Q_of_R (Kd.R_mono (rt G.out z.out (by decide)) (fun _ hk => trivial)), Kd.R_mono (rt I.out z.out (by decide)) (fun _ hk => trivial), iis s.out, bs HB.out, ks HK.out⟩
     ·rw [if_neg bM] at H
      have eW : (ab == 4) = false := beq_eq_false_iff_ne.mpr bM
      have eX : (ab != 4) = true := bne_iff_ne.mpr bM
      by_cases bN : ab = 5
      ·rw [if_pos bN] at H
       have e7 : (ab == 5) = true := beq_iff_eq.mpr bN
       have e8 : (ab != 5) = false := bne_eq_false_iff_eq.mpr bN
       clear bN
       have H' := am H
       clear H
       go_enter Try.func88, Try.ntmps88
       go_wp2_with (first | ((with_reducible refine gd 3 rfl ?_); refine bx 3 (cs := #[.slice al Z.length an, .slice ao aa.length ap]) (t := 34) ?_; intro aM hg m9 hbox hb; replace HB := hs HB hb; have y := am hbox; have aA := gwk HK hg; have aV := gew ak aA; replace HK := kb HK hb; have ai := nlt s hg; have aH := nsy ai; replace s := ib s hb; clear hb hbox hg) | ((with_reducible refine gd 4 rfl ?_); refine bx 4 (cs := #[.slice none 0 0, .slice none 0 0]) (t := 34) ?_; intro ac hg h4 hbox hb; replace HB := hs HB hb; have z := am hbox; have aB := gwk HK hg; have aW := gew ak aB; replace HK := kb HK hb; have aE := nq y hg; have aG := nq' y hg; replace y := bb y hb rfl; have aj := nlt s hg; have aI := nsy aj; replace s := ib s hb; clear hb hbox hg; have na := aE.out; have nb := aG.out; have nc := aH.out; have nd := ai.out; obtain ⟨h5, h6⟩ := bc2 (w := h4) y.out; have h7 := blk_frozen y.out) | ((with_reducible refine gc 97 rfl ?_); refine gl 10 Try.func97 #[.agg #[.slice al Z.length an, .slice ao aa.length ap]] ?_; (with_reducible refine (spec_l2Copy.calls _ _ Z _ _ aa O J _ ?T ?X ?ar ?au A3.out).mono ?_); (case T => exact Kd.C_foot_now bc.out (ks HK.out)); (case X => exact be.out); (case ar => exact Kd.C_foot_now bg.out (ks HK.out)); (case au => exact bh.out); rintro e ne ⟨bl, bm, rfl, af, ag, hb⟩; refine ⟨_, rfl, ?_⟩; have G := am (Kd.R_lower af (keep_size (w := w) (g := g) (row := none) (ks HK.out))); have I := am (Kd.R_lower ag (keep_size (w := w) (g := g) (row := none) (ks HK.out))); replace s := ib s hb; replace y := bb y hb rfl; replace z := bb z hb rfl; replace HK := kb HK hb; replace HB := hs HB hb; (try clear af ag hb)) | ((with_reducible refine gd 5 rfl ?_); refine bx 5 (cs := #[.slice none 0 0, .slice none 0 0]) (t := 34) ?_; intro ad hg h8 hbox hb; replace G := rb G hb; replace I := rb I hb; replace HB := hs HB hb; have D := am hbox; have aC := gwk HK hg; have aX := gew ak aC; replace HK := kb HK hb; have av := nq y hg; have aw := nq' y hg; replace y := bb y hb rfl; have ax := nq z hg; have ay := nq' z hg; replace z := bb z hb rfl; have ah := nlt s hg; have aD := nsy ah; replace s := ib s hb; clear hb hbox hg; obtain ⟨e9, fa, h9⟩ := Kd.R_slice G.out; subst h9; have nf := aw.out; have ng := av.out; have nh := ay.out; have ni := ax.out; have nj := aD.out; have nk := ah.out; obtain ⟨ia, ic⟩ := bc2 (w := h8) D.out; have ie := blk_frozen D.out; obtain ⟨fb, fc, ig⟩ := Kd.R_slice I.out; subst ig) | ((with_reducible refine gc 120 rfl ?_); refine gl 18 Try.func120 #[.pointer (some ⟨g, 0, none⟩), .int .i64 60] ?_; (with_reducible refine (spec_l9Rd_pick.calls k g aq aU 60 ab aJ w0 _ ?T ?X A4.out).mono ?_); (case T => exact iis s.out); (case X => exact bs HB.out); rintro e nl ⟨rfl, hi, hb, hk⟩; refine ⟨_, rfl, ?_⟩; replace y := kk y hk; replace z := kk z hk; replace G := rp G D s hk; replace I := rp I D s hk; replace D := kp #[.slice e9 O.length fa, .slice fb J.length fc] D hk; replace HK := kt HK hk; replace HB := am hb; replace s := am hi; (try clear hi hb hk)))
       go_loopg [8] k (fun kq v8 w' => ∃ (bG : Int) (bH : List (S36)) (bF : List (S56)) (dJ : Value) (dK : Value), v8 = .int .i64 bG ∧ Aside0 (spec_l2Bent.l0 kq bG aq aJ bH bF = some (r1, r2, r3)) ∧ Aside0 (kq ≤ k) ∧ Aside0 (Kd.R k36 36 w' w.heap.size (fun _ => True) dJ bH) ∧ Aside0 (Kd.R k56 56 w' w.heap.size (fun _ => True) dK bF) ∧ Aside0 (w'.heap[aM]? = some (.cells #[(.slice al Z.length an), (.slice ao aa.length ap)] 34 (0, 0))) ∧ Aside0 (w'.heap[ac]? = some (.cells #[(.slice none 0 0), (.slice none 0 0)] 34 (0, 0))) ∧ Aside0 (w'.heap[ad]? = some (.cells #[dJ, dK] 34 (0, 0))) ∧ Aside0 (IsS126 w0 w' g aq aJ) ∧ Aside0 (KeepBut w w' g none) ∧ Aside0 (Below w0.heap.size w0 w'))
       case atStart => exact ⟨(30), (O), (J), (.slice e9 O.length fa), (.slice fb J.length fc), eqs, H', ⟨Nat.le_refl _⟩, ⟨rl G.out⟩, ⟨rl I.out⟩, ⟨bf y.out⟩, ⟨bf z.out⟩, ⟨bf D.out⟩, ⟨iis s.out⟩, ⟨ks HK.out⟩, ⟨bs HB.out⟩⟩
       case round =>
        clear H'
        try clear c1
        try clear p1
        try clear q1
        try clear nm
        try clear c2
        try clear p2
        try clear p5
        try clear q5
        try clear nn
        try clear no
        try clear c8
        try clear c9
        try clear np
        try clear nr
        try clear ns
        try clear nt
        try clear nu
        try clear nv
        try clear nw
        try clear nx
        try clear ny
        try clear nz
        try clear nA
        try clear nB
        try clear nC
        try clear nD
        try clear nE
        try clear nF
        try clear nG
        try clear nH
        try clear nI
        try clear nJ
        try clear nK
        try clear bJ
        try clear nL
        try clear nM
        try clear bK
        try clear ev
        try clear ew
        try clear bV
        try clear ex
        try clear ey
        try clear cI
        try clear cJ
        try clear nN
        try clear cN
        try clear cO
        try clear nO
        try clear nP
        try clear nQ
        try clear nR
        try clear nS
        try clear nT
        try clear nU
        try clear nV
        try clear nW
        try clear nX
        try clear bM
        try clear eW
        try clear eX
        try clear bX
        try clear eY
        try clear eZ
        try clear cP
        try clear g2
        try clear g3
        try clear cQ
        try clear nY
        try clear nZ
        try clear n0
        try clear n1
        try clear n2
        try clear n3
        try clear n4
        try clear n5
        try clear n6
        try clear n7
        try clear n8
        try clear n9
        try clear bN
        try clear e7
        try clear e8
        try clear oc
        try clear od
        try clear oe
        try clear of
        try clear og
        try clear gG gH
        try clear gJ gK
        try clear gN gO
        try clear gS gT
        try clear gW gX
        try clear gZ g0
        try clear g7 g8
        try clear hu hv
        try clear hD hE
        try clear hG hH
        try clear hM hO
        try clear hU hV
        try clear hY hZ
        try clear h1 h2
        try clear h5 h6
        try clear ia ic
        try clear gI
        try clear gL
        try clear gP
        try clear gU
        try clear gY
        try clear g1
        try clear g9
        try clear hx
        try clear hF
        try clear hJ
        try clear hP
        try clear hW
        try clear h0
        try clear h3
        try clear h7
        try clear ie
        try clear gy
        try clear gz
        try clear gA
        try clear gB
        try clear gC
        try clear b8
        try clear b9
        try clear ce
        try clear cf
        try clear cg
        try clear cN
        try clear dd
        try clear cO
        try clear de
        obtain ⟨bG, bH, bF, dJ, dK, rfl, HA, fd, bj, bk, y, z, D, s, HK, HB⟩ := hrel
        cases gk with
        | zero => exact absurd HA.out (by simp [spec_l2Bent.l0])
        | succ k1 =>
         have H := HA.out
         clear HA
         simp only [spec_l2Bent.l0] at H
         by_cases ch : bG < 36
         ·rw [if_pos ch] at H
          have ih : decide (bG < 36) = true := decide_eq_true ch
          clear ch
          replace H := Option.bind_eq_some_iff.mp H
          obtain ⟨⟨df, dL⟩, fe, H⟩ := H
          try dsimp -simprocs only at H
          have ii := am fe
          clear fe
          have H' := am H
          clear H
          have oh := aw.out
          have oj := av.out
          have ol := ay.out
          have om := ax.out
          have oo := aD.out
          have oq := ah.out
          obtain ⟨ot, ou⟩ := bc2 (w := wr) D.out
          have ov := blk_frozen D.out
          obtain ⟨dg, dh, ij⟩ := Kd.R_slice bj.out
          subst ij
          obtain ⟨cV, cW, ik⟩ := Kd.R_slice bk.out
          subst ik
          go_wp2_with (first | ((with_reducible refine gc 109 rfl ?_); refine gl 90 Try.func109 #[.agg #[.slice dg bH.length dh, .slice cV bF.length cW], .agg #[.int .i64 5, .int .i64 bG]] ?_; (with_reducible refine (spec_l2PutNode.calls k1 (fun k_ => some k_ = (.slice dg bH.length dh : Value).ownBlock) (.slice dg bH.length dh) bH (fun k_ => some k_ = (.slice cV bF.length cW : Value).ownBlock) (.slice cV bF.length cW) bF 5 bG df dL w0 _ ?T ?X ?ar ii.out).mono ?_); (case T => exact bs HB.out); (case X => exact Kd.R_lower (Kd.R_tight rfl bj.out) HL.out); (case ar => exact Kd.R_lower (Kd.R_tight rfl bk.out) HL.out); rintro e il ⟨ow, ox, rfl, af, ag, hb, hkp⟩; refine ⟨_, rfl, ?_⟩; replace y := am (blk_kept (bf y.out) hkp (fun hs_ => Or.elim hs_ (fun e_ => (fun e_ => (Kd.R_ne bj.out y.out (by decide)) e_) e_) (fun e_ => (fun e_ => (Kd.R_ne bk.out y.out (by decide)) e_) e_))); replace z := am (blk_kept (bf z.out) hkp (fun hs_ => Or.elim hs_ (fun e_ => (fun e_ => (Kd.R_ne bj.out z.out (by decide)) e_) e_) (fun e_ => (fun e_ => (Kd.R_ne bk.out z.out (by decide)) e_) e_))); replace D := am (blk_kept (bf D.out) hkp (fun hs_ => Or.elim hs_ (fun e_ => (fun e_ => (Kd.R_ne bj.out D.out (by decide)) e_) e_) (fun e_ => (fun e_ => (Kd.R_ne bk.out D.out (by decide)) e_) e_))); replace s := am (IsS126.kept (iis s.out) hkp (fun hs_ => Or.elim hs_ (fun e_ => (fun e_ => (IsS126.own_ne s.out bj.out (by decide)) e_) e_) (fun e_ => (fun e_ => (IsS126.own_ne s.out bk.out (by decide)) e_) e_))); have ff := am (Kd.R_mono (ok' := fun k_ => True) (Kd.R_raise (d := k36) (b := w0.heap.size) (b' := w.heap.size) (fun _ _ _ _ h_ => h_) af (fun k_ e_ => Or.elim (af.1 k_ e_) (fun hs_ => Or.elim hs_ (fun e_ => (fun e_ => Kd.R_base bj.out k_ e_.symm) e_) (fun e_ => (fun e_ => Kd.R_base bk.out k_ e_.symm) e_)) (fun hn_ => Nat.le_trans (keep_size (w := w) (g := g) (row := none) (ks HK.out)) hn_))) (fun k_ hk_ => trivial)); have fg := am (Kd.R_mono (ok' := fun k_ => True) (Kd.R_raise (d := k56) (b := w0.heap.size) (b' := w.heap.size) (fun _ _ _ _ h_ => h_) ag (fun k_ e_ => Or.elim (ag.1 k_ e_) (fun hs_ => Or.elim hs_ (fun e_ => (fun e_ => Kd.R_base bj.out k_ e_.symm) e_) (fun e_ => (fun e_ => Kd.R_base bk.out k_ e_.symm) e_)) (fun hn_ => Nat.le_trans (keep_size (w := w) (g := g) (row := none) (ks HK.out)) hn_))) (fun k_ hk_ => trivial)); replace HK := am (Kept.keepG (ks HK.out) hkp (fun k_ hs_ => Or.elim hs_ (fun e_ => (fun e_ => .inr (Kd.R_base bj.out k_ e_.symm)) e_) (fun e_ => (fun e_ => .inr (Kd.R_base bk.out k_ e_.symm)) e_))); replace HB := am hb; clear bj bk; (try clear af ag hb hkp); obtain ⟨fh, fi, im⟩ := Kd.R_slice ff.out; subst im; obtain ⟨oy, oz⟩ := bc2 (w := il) D.out; have oA := blk_frozen D.out; obtain ⟨io, ip, iq⟩ := Kd.R_slice fg.out; subst iq))
          go_roundg k1
          case measure => have := fd.out; omega
          case rel => exact ⟨(wrap64 (bG + 1)), (df), (dL), (.slice fh df.length fi), (.slice io dL.length ip), eqs, H', ⟨by have := fd.out; omega⟩, ⟨Kd.R_mono (rt ff.out D.out (by decide)) (fun _ hk => trivial)⟩, ⟨Kd.R_mono (rt fg.out D.out (by decide)) (fun _ hk => trivial)⟩, ⟨bf y.out⟩, ⟨bf z.out⟩, ⟨by (with_reducible repeat (first | refine blk_drewN ?_ _ | refine blk_drew ?_ | refine blk_alloc ?_ _)); refine blk_put (cs := #[.slice fh df.length fi, .slice cV bF.length cW]) ?_ 1 _ rfl; (with_reducible repeat (first | refine blk_drewN ?_ _ | refine blk_drew ?_ | refine blk_alloc ?_ _)); refine blk_put (cs := #[.slice dg bH.length dh, .slice cV bF.length cW]) ?_ 0 _ rfl; exact bf D.out⟩, ⟨iis s.out⟩, ⟨ks HK.out⟩, ⟨bs HB.out⟩⟩
         ·rw [if_neg ch] at H
          have ih : decide (bG < 36) = false := decide_eq_false ch
          clear ch
          simp only [Option.some.injEq, Prod.mk.injEq] at H
          obtain ⟨rfl, rfl, rfl⟩ := H
          have oB := aw.out
          have oC := av.out
          have oD := ay.out
          have oE := ax.out
          have oF := aD.out
          have oG := ah.out
          obtain ⟨oH, oI⟩ := bc2 (w := wr) D.out
          have oJ := blk_frozen D.out
          obtain ⟨ir, it, iu⟩ := Kd.R_slice bj.out
          subst iu
          have oK := aG.out
          have oL := aE.out
          have oM := aI.out
          have oN := aj.out
          obtain ⟨oO, oP⟩ := bc2 (w := wr) z.out
          have oQ := blk_frozen z.out
          obtain ⟨iv, iw, ix⟩ := Kd.R_slice bk.out
          subst ix
          go_wp2
          refine bodyPost_ret (results_cell_row rfl _ _ ac 34 #[.slice ir bH.length it, .slice iv bF.length iw] (0, 0) _ rfl (bp z.out rfl) Try.underlying34 rfl (by kernel_rfl)) rfl ?_
          exact ⟨_, _, eqr, Kd.Q_of_R (Kd.R_mono (rt bj.out z.out (by decide)) (fun _ hk => trivial)), Kd.R_mono (rt bk.out z.out (by decide)) (fun _ hk => trivial), iis s.out, bs HB.out, ks HK.out⟩
      ·rw [if_neg bN] at H
       have e7 : (ab == 5) = false := beq_eq_false_iff_ne.mpr bN
       have e8 : (ab != 5) = true := bne_iff_ne.mpr bN
       simp only [Option.some.injEq, Prod.mk.injEq] at H
       obtain ⟨rfl, rfl, rfl⟩ := H
       go_enter Try.func88, Try.ntmps88
       go_wp2_with (first | ((with_reducible refine gd 3 rfl ?_); refine bx 3 (cs := #[.slice al Z.length an, .slice ao aa.length ap]) (t := 34) ?_; intro aM hg oR hbox hb; replace HB := hs HB hb; have y := am hbox; have aA := gwk HK hg; have aV := gew ak aA; replace HK := kb HK hb; have ai := nlt s hg; have aH := nsy ai; replace s := ib s hb; clear hb hbox hg) | ((with_reducible refine gd 4 rfl ?_); refine bx 4 (cs := #[.slice none 0 0, .slice none 0 0]) (t := 34) ?_; intro ac hg iy hbox hb; replace HB := hs HB hb; have z := am hbox; have aB := gwk HK hg; have aW := gew ak aB; replace HK := kb HK hb; have aE := nq y hg; have aG := nq' y hg; replace y := bb y hb rfl; have aj := nlt s hg; have aI := nsy aj; replace s := ib s hb; clear hb hbox hg; have oS := aE.out; have oT := aG.out; have oU := aH.out; have oV := ai.out; obtain ⟨oW, oX⟩ := bc2 (w := iy) y.out; have oY := blk_frozen y.out) | ((with_reducible refine gc 97 rfl ?_); refine gl 10 Try.func97 #[.agg #[.slice al Z.length an, .slice ao aa.length ap]] ?_; (with_reducible refine (spec_l2Copy.calls _ _ Z _ _ aa O J _ ?T ?X ?ar ?au A3.out).mono ?_); (case T => exact Kd.C_foot_now bc.out (ks HK.out)); (case X => exact be.out); (case ar => exact Kd.C_foot_now bg.out (ks HK.out)); (case au => exact bh.out); rintro e oZ ⟨bl, bm, rfl, af, ag, hb⟩; refine ⟨_, rfl, ?_⟩; have G := am (Kd.R_lower af (keep_size (w := w) (g := g) (row := none) (ks HK.out))); have I := am (Kd.R_lower ag (keep_size (w := w) (g := g) (row := none) (ks HK.out))); replace s := ib s hb; replace y := bb y hb rfl; replace z := bb z hb rfl; replace HK := kb HK hb; replace HB := hs HB hb; (try clear af ag hb)) | ((with_reducible refine gd 5 rfl ?_); refine bx 5 (cs := #[.slice none 0 0, .slice none 0 0]) (t := 34) ?_; intro ad hg iz hbox hb; replace G := rb G hb; replace I := rb I hb; replace HB := hs HB hb; have D := am hbox; have aC := gwk HK hg; have aX := gew ak aC; replace HK := kb HK hb; have av := nq y hg; have aw := nq' y hg; replace y := bb y hb rfl; have ax := nq z hg; have ay := nq' z hg; replace z := bb z hb rfl; have ah := nlt s hg; have aD := nsy ah; replace s := ib s hb; clear hb hbox hg; obtain ⟨fj, fk, iA⟩ := Kd.R_slice G.out; subst iA; have o0 := aw.out; have o1 := av.out; have o2 := ay.out; have o3 := ax.out; have o4 := aD.out; have o5 := ah.out; obtain ⟨o6, o7⟩ := bc2 (w := iz) D.out; have o8 := blk_frozen D.out; obtain ⟨fl, fm, iB⟩ := Kd.R_slice I.out; subst iB) | ((with_reducible refine gc 120 rfl ?_); refine gl 18 Try.func120 #[.pointer (some ⟨g, 0, none⟩), .int .i64 60] ?_; (with_reducible refine (spec_l9Rd_pick.calls k g aq aU 60 ab aJ w0 _ ?T ?X A4.out).mono ?_); (case T => exact iis s.out); (case X => exact bs HB.out); rintro e fo ⟨rfl, hi, hb, hk⟩; refine ⟨_, rfl, ?_⟩; replace y := kk y hk; replace z := kk z hk; replace G := rp G D s hk; replace I := rp I D s hk; replace D := kp #[.slice fj O.length fk, .slice fl J.length fm] D hk; replace HK := kt HK hk; replace HB := am hb; replace s := am hi; (try clear hi hb hk); obtain ⟨o9, pa⟩ := bc2 (w := fo) D.out; have pb := blk_frozen D.out; have pc := aI.out; have pd := aj.out; obtain ⟨pe, pf⟩ := bc2 (w := fo) z.out; have pg := blk_frozen z.out))
       refine bodyPost_ret (results_cell_row rfl _ _ ac 34 #[.slice fj O.length fk, .slice fl J.length fm] (0, 0) _ rfl (bp z.out rfl) Try.underlying34 rfl (by kernel_rfl)) rfl ?_
       exact ⟨_, _, eqr, Kd.Q_of_R (Kd.R_mono (rt G.out z.out (by decide)) (fun _ hk => trivial)), Kd.R_mono (rt I.out z.out (by decide)) (fun _ hk => trivial), iis s.out, bs HB.out, ks HK.out⟩

end Go.Proofs.Ytohmemckdogljaa.QFnGraphBent
