/- Contracts of the Go functions that this law reaches: each does what its plain Lean function says. No condition. -/
import Derived.Test.YtohmemckdogljaaQFnGraphBentx0
import Derived.Test.YtohmemckdogljaaQFnGraphBentx6
import Derived.Test.YtohmemckdogljaaQFnGraphBentx7
import Derived.Test.YtohmemckdogljaaQFnGraphBentx8
namespace Go.Proofs.Ytohmemckdogljaa.QFnGraphBent
open Go.RowKit Go.Proofs.YtohmemckdogljaaW.PrintWords Go.Proofs.YtohmemckdogljaaW.PrintLast Go.Proofs.YtohmemckdogljaaW.PrintMore Go.Proofs.Ytohmemckdogljaa.Bl
attribute [local go_sem] max2_int min2_int max_two min_two max_three min_three max_four min_four   -- for this text's walks alone
set_option linter.unusedVariables false
set_option linter.unusedSimpArgs false
set_option maxHeartbeats 8000000
set_option maxRecDepth 100000

/-! ### spec_l2Op: function 89 -/
def spec_l2Op.j0 : Nat → List Int → Int → Int → Int → Int → Int → Int → Int → Int → Int → Option (Int × Int × Int × Int × Int × Int × Int × Int × Int)
 | 0, _, _, _, _, _, _, _, _, _, _ => none
 | k + 1, G, aa, I, D, J, L, y, z, O, T => (spec_l9Rd_pick.f k G aa 60).bind fun s => (if s.1 = 0 then ((spec_l9Rd_num.f k G s.2 (([0, 5, (-1), 2] : List Int))).bind fun X => (some (X.1, D, J, L, y, z, O, T, X.2))) else (if s.1 = 1 then ((spec_l9Rd_num.f k G s.2 (([(-1), 41, 5] : List Int))).bind fun Y => (some (I, D, Y.1, L, y, z, O, T, Y.2))) else (if s.1 = 2 then ((spec_l9Rd_num.f k G s.2 (([0, 8, (-1)] : List Int))).bind fun Z => (some (I, D, J, Z.1, y, z, O, T, Z.2))) else (if s.1 = 3 then (some (I, D, J, L, y, z, y, z, s.2)) else (some (I, D, J, L, y, z, O, T, s.2))))))
def spec_l2Op.f (k : Nat) (s : List Int) (Z : Int) (I : List (S36)) (D : List (S56)) : Option (Int × Int × Int × Int × Int × Int × Int × Int × Int) := (spec_l9Rd_num.f k s Z (([1, 2, 2, 1, 2, 3, 4, 2] : List Int))).bind fun y => (if y.1 = 1 then ((spec_l2Node.f k s y.2).bind fun T => (spec_l2Op.j0 k s T.2.2 y.1 T.1 T.2.1 0 0 0 0 0)) else (if y.1 = 2 then ((spec_l2Edge.f k s y.2 I D).bind fun J => (spec_l2Op.j0 k s J.2.2.2.2.2 y.1 0 0 J.1 J.2.1 J.2.2.1 J.2.2.2.1 J.2.2.2.2.1)) else (if y.1 = 3 then ((spec_l2Edge.f k s y.2 I D).bind fun z => (if (D.length : Int) > 0 then ((spec_l9Rd_pick.f k s z.2.2.2.2.2 4).bind fun X => (if X.1 > 0 then ((spec_l9Rd_pick.f k s X.2 (D.length : Int)).bind fun G => (if 0 ≤ G.1 then (if G.1 < (D.length : Int) then (spec_l2Op.j0 k s G.2 y.1 0 0 ((rd_T56 D G.1).f0) ((rd_T56 D G.1).f1.f0) ((rd_T56 D G.1).f1.f1) ((rd_T56 D G.1).f2.f0) ((rd_T56 D G.1).f2.f1)) else (none)) else (none))) else (spec_l2Op.j0 k s X.2 y.1 0 0 z.1 z.2.1 z.2.2.1 z.2.2.2.1 z.2.2.2.2.1))) else (spec_l2Op.j0 k s z.2.2.2.2.2 y.1 0 0 z.1 z.2.1 z.2.2.1 z.2.2.2.1 z.2.2.2.2.1))) else (if y.1 = 4 then ((spec_l2Node.f k s y.2).bind fun L => (if (I.length : Int) > 0 then ((spec_l9Rd_pick.f k s L.2.2 2).bind fun Y => (if Y.1 > 0 then ((spec_l9Rd_pick.f k s Y.2 (I.length : Int)).bind fun O => (if 0 ≤ O.1 then (if O.1 < (I.length : Int) then (spec_l2Op.j0 k s O.2 y.1 ((rd_T36 I O.1).f0) ((rd_T36 I O.1).f1) 0 0 0 0 0) else (none)) else (none))) else (spec_l2Op.j0 k s Y.2 y.1 L.1 L.2.1 0 0 0 0 0))) else (spec_l2Op.j0 k s L.2.2 y.1 L.1 L.2.1 0 0 0 0 0))) else (spec_l2Op.j0 k s y.2 y.1 0 0 0 0 0 0 0)))))
def spec_l2Op.T10 : Bool × List (List Nat × List Nat) := (true, [([], []), ([0], [0]), ([], []), ([], []), ([3], [3]), ([4], [4]), ([2, 5], [2, 5]), ([1, 6], [1, 6]), ([7], [7]), ([0, 1, 2, 3, 4, 5, 6, 7, 8], []), ([9, 8, 6, 0, 1, 2, 3, 4, 5, 6, 7, 8], [8, 9])])
def spec_l2Op.B10 : List Nat := [0, 1, 0, 0, 8, 24, 60, 127, 255, 511, 1023]
theorem spec_l2Op.tab10 : rtab .any (opsOf Try.f89 10) = spec_l2Op.T10 := by kernel_rfl
theorem spec_l2Op.bits10 : waitsOk spec_l2Op.T10.2 spec_l2Op.B10 = true := by kernel_rfl
def spec_l2Op.T14 : Bool × List (List Nat × List Nat) := (true, [([], []), ([0], [0]), ([], []), ([], []), ([3], [3]), ([4], [4]), ([2, 5], [2, 5]), ([1, 6], [1, 6]), ([7], [7]), ([0, 1, 2, 3, 4, 5, 6, 7, 8], []), ([9, 8, 6, 0, 1, 2, 3, 4, 5, 6, 7, 8], [8, 9])])
def spec_l2Op.B14 : List Nat := [0, 1, 0, 0, 8, 24, 60, 127, 255, 511, 1023]
theorem spec_l2Op.tab14 : rtab .any (opsOf Try.f89 14) = spec_l2Op.T14 := by kernel_rfl
theorem spec_l2Op.bits14 : waitsOk spec_l2Op.T14.2 spec_l2Op.B14 = true := by kernel_rfl
theorem spec_l2Op.calls (k : Nat) (g : Nat) (O : List Int) (bT : Int) (aO : Option Addr) (aH : Nat) (aa : List (S36)) (aP : Option Addr) (aI : Nat) (J : List (S56)) (r1 : Int) (r2 : Int) (r3 : Int) (r4 : Int) (r5 : Int) (r6 : Int) (r7 : Int) (r8 : Int) (r9 : Int) (w0 w : World) (hI : IsS126 w0 w g O bT) (hB : Below w0.heap.size w0 w) (cJ : ∀ W_, KeepBut w W_ g none → Kd.C k36 W_ aO aa.length aa) (cK : aa.length ≤ aH) (cL : ∀ W_, KeepBut w W_ g none → Kd.C k56 W_ aP J.length J) (cM : J.length ≤ aI) (h : spec_l2Op.f k O bT aa J = some (r1, r2, r3, r4, r5, r6, r7, r8, r9)) :
  Calls Try.prog 89 #[.pointer (some ⟨g, 0, none⟩), .agg #[.slice aO aa.length aH, .slice aP J.length aI]] w fun e w' => e = .returned (.agg #[.int .i64 r1, .int .i64 r2, .int .i64 r3, .int .i64 r4, .int .i64 r5, .int .i64 r6, .int .i64 r7, .int .i64 r8]) ∧ IsS126 w0 w' g O r9 ∧ Below w0.heap.size w0 w' ∧ KeepBut w w' g none := by
 have hu34 := Try.underlying34
 have hu58 := Try.underlying58
 have hu36 := Try.underlying36
 have hu56 := Try.underlying56
 have al := am cJ
 have bU := am cK
 clear cJ cK
 have ac := am cL
 have bV := am cM
 clear cL cM
 have z := am hI
 have GEg_ : Ge w0 g := ⟨IsS126.ge z.out⟩
 have HK := am (KeepBut.refl w g none)
 have HL := am hB.size
 clear hI
 have ce := am hB.size
 have HB := am hB
 clear hB
 have H := h; unfold spec_l2Op.f at H
 clear h
 obtain ⟨cf, cg⟩ : ∃ y_ : List Int, y_ = (([1, 2, 2, 1, 2, 3, 4, 2] : List Int)) := ⟨_, rfl⟩
 replace H : ((spec_l9Rd_num.f k O bT cf).bind fun ak => (if ak.1 = 1 then ((spec_l2Node.f k O ak.2).bind fun ch => (spec_l2Op.j0 k O ch.2.2 ak.1 ch.1 ch.2.1 0 0 0 0 0)) else (if ak.1 = 2 then ((spec_l2Edge.f k O ak.2 aa J).bind fun bh => (spec_l2Op.j0 k O bh.2.2.2.2.2 ak.1 0 0 bh.1 bh.2.1 bh.2.2.1 bh.2.2.2.1 bh.2.2.2.2.1)) else (if ak.1 = 3 then ((spec_l2Edge.f k O ak.2 aa J).bind fun az => (if (J.length : Int) > 0 then ((spec_l9Rd_pick.f k O az.2.2.2.2.2 4).bind fun ci => (if ci.1 > 0 then ((spec_l9Rd_pick.f k O ci.2 (J.length : Int)).bind fun aS => (if 0 ≤ aS.1 then (if aS.1 < (J.length : Int) then (spec_l2Op.j0 k O aS.2 ak.1 0 0 ((rd_T56 J aS.1).f0) ((rd_T56 J aS.1).f1.f0) ((rd_T56 J aS.1).f1.f1) ((rd_T56 J aS.1).f2.f0) ((rd_T56 J aS.1).f2.f1)) else (none)) else (none))) else (spec_l2Op.j0 k O ci.2 ak.1 0 0 az.1 az.2.1 az.2.2.1 az.2.2.2.1 az.2.2.2.2.1))) else (spec_l2Op.j0 k O az.2.2.2.2.2 ak.1 0 0 az.1 az.2.1 az.2.2.1 az.2.2.2.1 az.2.2.2.2.1))) else (if ak.1 = 4 then ((spec_l2Node.f k O ak.2).bind fun bi => (if (aa.length : Int) > 0 then ((spec_l9Rd_pick.f k O bi.2.2 2).bind fun cj => (if cj.1 > 0 then ((spec_l9Rd_pick.f k O cj.2 (aa.length : Int)).bind fun bv => (if 0 ≤ bv.1 then (if bv.1 < (aa.length : Int) then (spec_l2Op.j0 k O bv.2 ak.1 ((rd_T36 aa bv.1).f0) ((rd_T36 aa bv.1).f1) 0 0 0 0 0) else (none)) else (none))) else (spec_l2Op.j0 k O cj.2 ak.1 bi.1 bi.2.1 0 0 0 0 0))) else (spec_l2Op.j0 k O bi.2.2 ak.1 bi.1 bi.2.1 0 0 0 0 0))) else (spec_l2Op.j0 k O ak.2 ak.1 0 0 0 0 0 0 0)))))) = some (r1, r2, r3, r4, r5, r6, r7, r8, r9) := by first | (rw [cg]; exact H) | exact H
 have cN := am cg
 clear cg
 replace H := Option.bind_eq_some_iff.mp H
 obtain ⟨⟨I, aJ⟩, cO, H⟩ := H
 try dsimp -simprocs only at H
 have A3 := am cO
 clear cO
 have ck := am H
 clear H
 go_enter Try.func89, Try.ntmps89
 go_upto_block 0 with (first | ((with_reducible refine gd 3 rfl ?_); refine bx 3 (cs := #[.slice aO aa.length aH, .slice aP J.length aI]) (t := 34) ?_; intro bw hg w5 hbox hb; replace HB := hs HB hb; have D := am hbox; have dV := gwk HK hg; have gB := gew ce dV; replace HK := kb HK hb; have aT := nlt z hg; have aZ := nsy aT; replace z := ib z hb; clear hb hbox hg) | ((with_reducible refine gd 4 rfl ?_); refine bx 4 (cs := #[.int .i64 0, .int .i64 0, .int .i64 0, .int .i64 0, .int .i64 0, .int .i64 0, .int .i64 0, .int .i64 0]) (t := 58) ?_; intro bj hg w6 hbox hb; replace HB := hs HB hb; have G := am hbox; have dW := gwk HK hg; have gC := gew ce dW; replace HK := kb HK hb; have aA := nq D hg; have aB := nq' D hg; replace D := bb D hb rfl; have bk := nlt z hg; have bz := nsy bk; replace z := ib z hb; clear hb hbox hg) | ((with_reducible refine gd 7 rfl ?_); refine rli (k := .i64) 3 7 ([1, 2, 2, 1, 2, 3, 4, 2] : List Int) ?_; intro gD w7 bA hb hg_ hnew_; clear hg_ hnew_; (first | rw [← cN.out] at bA | (simp only [Int.reduceToNat] at bA; rw [← cN.out] at bA)); have Z := am (Kd.R_lower bA (keep_size (w := w) (g := g) (row := none) (ks HK.out))); replace z := ib z hb; replace D := bb D hb rfl; replace G := bb G hb rfl; replace HK := kb HK hb; replace HB := hs HB hb; clear hb bA; obtain ⟨dX, dY, dZ⟩ := Kd.R_slice Z.out; subst dZ) | ((with_reducible refine gc 119 rfl ?_); refine gl 8 Try.func119 #[.pointer (some ⟨g, 0, none⟩), .slice dX cf.length dY] ?_; (with_reducible refine (spec_l9Rd_num.calls k g O bT _ _ cf I aJ w0 _ ?X ?Y ?an ?ao ?ap A3.out).mono ?_); (case X => exact iis z.out); (case Y => exact bs HB.out); (case an => exact cr Z); (case ao => exact cc Z); (case ap => exact far_slice (IsS126.own_ne z.out Z.out (by decide))); rintro e gE ⟨rfl, hi, hb, hk⟩; refine ⟨_, rfl, ?_⟩; replace D := kk D hk; replace G := kk G hk; replace Z := ro Z z hk; replace HK := kt HK hk; replace HB := am hb; replace z := am hi; (try clear hi hb hk)) | ((with_reducible refine gd 5 rfl ?_); refine bx 5 (cs := #[.int .i64 0, .int .i64 0, .int .i64 0, .int .i64 0, .int .i64 0, .int .i64 0, .int .i64 0, .int .i64 0]) (t := 58) ?_; intro L hg bB hbox hb; replace Z := rb Z hb; replace HB := hs HB hb; have y := am hbox; have ad := gwk HK hg; have gF := gew ce ad; replace HK := kb HK hb; have ab := nq D hg; have af := nq' D hg; replace D := bb D hb rfl; have ag := nq G hg; have ah := nq' G hg; replace G := bb G hb rfl; have aq := nlt z hg; have ar := nsy aq; replace z := ib z hb; clear hb hbox hg; have gG := af.out; have gH := ab.out; have gI := ah.out; have gJ := ag.out; have gK := ar.out; have gL := aq.out; obtain ⟨d0, d1, d2, d3, d4, d5, d6, d7⟩ := bc8 (w := bB) y.out; have d8 := blk_frozen y.out))
 (try simp only [Act.put, List.setIfInBounds_toArray, List.set_cons_zero, List.set_cons_succ])
 go_cut [] (fun wc => ∃ (kq : Nat) (aU : Int) (aE : Int) (aQ : Int) (aR : Int) (aC : Int) (aD : Int) (aK : Int) (aL : Int), Aside0 (spec_l2Op.j0 kq O aU I aE aQ aR aC aD aK aL = some (r1, r2, r3, r4, r5, r6, r7, r8, r9)) ∧ Aside0 (kq ≤ k) ∧ Aside0 (wc.heap[bw]? = some (.cells #[(.slice aO aa.length aH), (.slice aP J.length aI)] 34 (0, 0))) ∧ Aside0 (wc.heap[bj]? = some (.cells #[.int .i64 0, .int .i64 0, .int .i64 0, .int .i64 0, .int .i64 0, .int .i64 0, .int .i64 0, .int .i64 0] 58 (0, 0))) ∧ Aside0 (wc.heap[L]? = some (.cells #[.int .i64 I, .int .i64 aE, .int .i64 aQ, .int .i64 aR, .int .i64 aC, .int .i64 aD, .int .i64 aK, .int .i64 aL] 58 (0, 0))) ∧ Aside0 (IsS126 w0 wc g O aU) ∧ Aside0 (KeepBut w wc g none) ∧ Aside0 (Below w0.heap.size w0 wc))
 case first =>
  have H := ck.out
  clear ck
  by_cases aV : I = 1
  ·rw [if_pos aV] at H
   have bl : (I == 1) = true := beq_iff_eq.mpr aV
   have cP : (I != 1) = false := bne_eq_false_iff_eq.mpr aV
   clear aV
   (first | rw [bl] | (simp only [i64_w, i32_w]; rw [bl]) | skip)
   replace H := Option.bind_eq_some_iff.mp H
   obtain ⟨⟨cl, cQ, cR⟩, cS, H⟩ := H
   try dsimp -simprocs only at H
   have d9 := am cS
   clear cS
   have H' := am H
   clear H
   go_wp2_with (first | ((with_reducible refine gc 121 rfl ?_); refine gl 15 Try.func121 #[.pointer (some ⟨g, 0, none⟩)] ?_; (with_reducible refine (spec_l2Node.calls k g O aJ cl cQ cR w0 _ ?X ?Y d9.out).mono ?_); (case X => exact iis z.out); (case Y => exact bs HB.out); rintro e ea ⟨rfl, hi, hb, hk⟩; refine ⟨_, rfl, ?_⟩; replace D := kk D hk; replace G := kk G hk; replace Z := rp Z y z hk; replace y := kp #[.int .i64 I, .int .i64 0, .int .i64 0, .int .i64 0, .int .i64 0, .int .i64 0, .int .i64 0, .int .i64 0] y hk; replace HK := kt HK hk; replace HB := am hb; replace z := am hi; (try clear hi hb hk); have gM := af.out; have gN := ab.out; have gO := ah.out; have gP := ag.out; have gQ := ar.out; have gR := aq.out; obtain ⟨eb, ec, ed, ee, ef, eg, eh, ei⟩ := bc8 (w := ea) y.out; have ej := blk_frozen y.out))
   go_meet
   case rel => exact ⟨_, (cR), (cl), (cQ), (0), (0), (0), (0), (0), H', ⟨by first | omega | exact Nat.le_refl _⟩, ⟨bf D.out⟩, ⟨bf G.out⟩, ⟨by (with_reducible repeat (first | refine blk_drewN ?_ _ | refine blk_drew ?_ | refine blk_alloc ?_ _)); refine blk_put (cs := #[.int .i64 I, .int .i64 cl, .int .i64 0, .int .i64 0, .int .i64 0, .int .i64 0, .int .i64 0, .int .i64 0]) ?_ 2 _ rfl; (with_reducible repeat (first | refine blk_drewN ?_ _ | refine blk_drew ?_ | refine blk_alloc ?_ _)); refine blk_put (cs := #[.int .i64 I, .int .i64 0, .int .i64 0, .int .i64 0, .int .i64 0, .int .i64 0, .int .i64 0, .int .i64 0]) ?_ 1 _ rfl; exact bf y.out⟩, ⟨iis z.out⟩, ⟨ks HK.out⟩, ⟨bs HB.out⟩⟩
  ·rw [if_neg aV] at H
   have bl : (I == 1) = false := beq_eq_false_iff_ne.mpr aV
   have cP : (I != 1) = true := bne_iff_ne.mpr aV
   (first | rw [bl] | (simp only [i64_w, i32_w]; rw [bl]) | skip)
   by_cases aW : I = 2
   ·rw [if_pos aW] at H
    have cT : (I == 2) = true := beq_iff_eq.mpr aW
    have cU : (I != 2) = false := bne_eq_false_iff_eq.mpr aW
    clear aW
    replace H := Option.bind_eq_some_iff.mp H
    obtain ⟨⟨bm, bC, bW, cm, cV, cW⟩, cX, H⟩ := H
    try dsimp -simprocs only at H
    have ek := am cX
    clear cX
    have H' := am H
    clear H
    have gS := aA.out
    have gT := aB.out
    have gU := ab.out
    have gV := af.out
    have gW := aZ.out
    have gX := aT.out
    obtain ⟨el, em⟩ := bc2 (w := bB) D.out
    have en := blk_frozen D.out
    go_wp2_with (first | ((with_reducible refine gc 122 rfl ?_); refine gl 21 Try.func122 #[.pointer (some ⟨g, 0, none⟩), .agg #[.slice aO aa.length aH, .slice aP J.length aI]] ?_; (with_reducible refine (spec_l2Edge.calls k g O aJ _ _ aa _ _ J bm bC bW cm cV cW w0 _ ?X ?Y ?an ?ao ?ap ?a4 ek.out).mono ?_); (case X => exact iis z.out); (case Y => exact bs HB.out); (case an => exact Kd.C_foot_step al.out (ks HK.out)); (case ao => exact bU.out); (case ap => exact Kd.C_foot_step ac.out (ks HK.out)); (case a4 => exact bV.out); rintro e eo ⟨rfl, hi, hb, hk⟩; refine ⟨_, rfl, ?_⟩; replace D := kk D hk; replace G := kk G hk; replace Z := rp Z y z hk; replace y := kp #[.int .i64 I, .int .i64 0, .int .i64 0, .int .i64 0, .int .i64 0, .int .i64 0, .int .i64 0, .int .i64 0] y hk; replace HK := kt HK hk; replace HB := am hb; replace z := am hi; (try clear hi hb hk); have gY := ah.out; have gZ := ag.out; have g0 := ar.out; have g1 := aq.out; obtain ⟨ep, eq, er, es, et, eu, ev, ew⟩ := bc8 (w := eo) y.out; have ex := blk_frozen y.out))
    go_meet
    case rel => exact ⟨_, (cW), (0), (0), (bm), (bC), (bW), (cm), (cV), H', ⟨by first | omega | exact Nat.le_refl _⟩, ⟨bf D.out⟩, ⟨bf G.out⟩, ⟨by (with_reducible repeat (first | refine blk_drewN ?_ _ | refine blk_drew ?_ | refine blk_alloc ?_ _)); refine blk_put (cs := #[.int .i64 I, .int .i64 0, .int .i64 0, .int .i64 bm, .int .i64 bC, .int .i64 bW, .int .i64 cm, .int .i64 0]) ?_ 7 _ rfl; (with_reducible repeat (first | refine blk_drewN ?_ _ | refine blk_drew ?_ | refine blk_alloc ?_ _)); refine blk_put (cs := #[.int .i64 I, .int .i64 0, .int .i64 0, .int .i64 bm, .int .i64 bC, .int .i64 bW, .int .i64 0, .int .i64 0]) ?_ 6 _ rfl; (with_reducible repeat (first | refine blk_drewN ?_ _ | refine blk_drew ?_ | refine blk_alloc ?_ _)); refine blk_put (cs := #[.int .i64 I, .int .i64 0, .int .i64 0, .int .i64 bm, .int .i64 bC, .int .i64 0, .int .i64 0, .int .i64 0]) ?_ 5 _ rfl; (with_reducible repeat (first | refine blk_drewN ?_ _ | refine blk_drew ?_ | refine blk_alloc ?_ _)); refine blk_put (cs := #[.int .i64 I, .int .i64 0, .int .i64 0, .int .i64 bm, .int .i64 0, .int .i64 0, .int .i64 0, .int .i64 0]) ?_ 4 _ rfl; (with_reducible repeat (first | refine blk_drewN ?_ _ | refine blk_drew ?_ | refine blk_alloc ?_ _)); refine blk_put (cs := #[.int .i64 I, .int .i64 0, .int .i64 0, .int .i64 0, .int .i64 0, .int .i64 0, .int .i64 0, .int .i64 0]) ?_ 3 _ rfl; exact bf y.out⟩, ⟨iis z.out⟩, ⟨ks HK.out⟩, ⟨bs HB.out⟩⟩
   ·rw [if_neg aW] at H
    have cT : (I == 2) = false := beq_eq_false_iff_ne.mpr aW
    have cU : (I != 2) = true := bne_iff_ne.mpr aW
    by_cases aX : I = 3
    ·rw [if_pos aX] at H
     have cY : (I == 3) = true := beq_iff_eq.mpr aX
     have cZ : (I != 3) = false := bne_eq_false_iff_eq.mpr aX
     clear aX
     replace H := Option.bind_eq_some_iff.mp H
     obtain ⟨⟨au, av, aw, ax, ay, bn⟩, c0, H⟩ := H
     try dsimp -simprocs only at H
     have cn := am c0
     clear c0
     by_cases a5 : (J.length : Int) > 0
     ·rw [if_pos a5] at H
      have da : decide (0 < (J.length : Int)) = true := decide_eq_true a5
      have db : decide (0 < J.length) = true := decide_eq_true (by omega)
      clear a5
      replace H := Option.bind_eq_some_iff.mp H
      obtain ⟨⟨bD, bX⟩, dc, H⟩ := H
      try dsimp -simprocs only at H
      have dd := am dc
      clear dc
      by_cases a6 : bD > 0
      ·rw [if_pos a6] at H
       have de : decide (0 < bD) = true := decide_eq_true a6
       clear a6
       replace H := Option.bind_eq_some_iff.mp H
       obtain ⟨⟨T, df⟩, dg, H⟩ := H
       try dsimp -simprocs only at H
       have ey := am dg
       clear dg
       by_cases bE : 0 ≤ T
       ·rw [if_pos bE] at H
        have ez : decide (0 ≤ T) = true := decide_eq_true bE
        clear bE
        by_cases bF : T < (J.length : Int)
        ·rw [if_pos bF] at H
         have eA : decide (T < (J.length : Int)) = true := decide_eq_true bF
         clear bF
         have H' := am H
         clear H
         have g2 := aA.out
         have g3 := aB.out
         have g4 := ab.out
         have g5 := af.out
         have g6 := aZ.out
         have g7 := aT.out
         obtain ⟨eB, eC⟩ := bc2 (w := bB) D.out
         have eD := blk_frozen D.out
         try go_wp2_with (first | ((with_reducible refine gc 122 rfl ?_); refine gl 27 Try.func122 #[.pointer (some ⟨g, 0, none⟩), .agg #[.slice aO aa.length aH, .slice aP J.length aI]] ?_; (with_reducible refine (spec_l2Edge.calls k g O aJ _ _ aa _ _ J au av aw ax ay bn w0 _ ?X ?Y ?an ?ao ?ap ?a4 cn.out).mono ?_); (case X => exact iis z.out); (case Y => exact bs HB.out); (case an => exact Kd.C_foot_step al.out (ks HK.out)); (case ao => exact bU.out); (case ap => exact Kd.C_foot_step ac.out (ks HK.out)); (case a4 => exact bV.out); rintro e dh ⟨rfl, hi, hb, hk⟩; refine ⟨_, rfl, ?_⟩; replace D := kk D hk; replace G := kk G hk; replace Z := rp Z y z hk; replace y := kp #[.int .i64 I, .int .i64 0, .int .i64 0, .int .i64 0, .int .i64 0, .int .i64 0, .int .i64 0, .int .i64 0] y hk; replace HK := kt HK hk; replace HB := am hb; replace z := am hi; (try clear hi hb hk); have g8 := ah.out; have g9 := ag.out; have hh := ar.out; have hj := aq.out; obtain ⟨eE, eF, eG, eH, eI, eJ, eK, eL⟩ := bc8 (w := dh) y.out; have eM := blk_frozen y.out; obtain ⟨eN, eO⟩ := bc2 (w := dh) D.out; have eP := blk_frozen D.out) | (go_at_call 120; (with_reducible refine (spec_l9Rd_pick.calls k g O bn 4 bD bX w0 _ ?X ?Y dd.out).mono ?_); (case X => exact iis z.out); (case Y => exact bs HB.out); rintro e eQ ⟨rfl, hi, hb, hk⟩; replace D := kk D hk; replace G := kk G hk; replace Z := rp Z y z hk; replace y := kp #[.int .i64 I, .int .i64 0, .int .i64 0, .int .i64 au, .int .i64 av, .int .i64 aw, .int .i64 ax, .int .i64 ay] y hk; replace HK := kt HK hk; replace HB := am hb; replace z := am hi; (try clear hi hb hk)))
         replace Z := rd_ Z
         replace D := bd D
         replace G := bd G
         replace y := bd y
         replace z := am (IsS126.drew z.out)
         replace HK := am (keep_drew HK.out)
         replace HB := hd HB
         have bY : 0 ≤ (T : Int) := oda
         have bZ : T < (J.length : Int) := oda
         obtain ⟨ai, eR, b0, b1, b2, b3, b4⟩ := at_T56 (Kd.C_foot_now ac.out HK.out) T bY bZ
         have ho := b4
         have hu := b3
         have hv := b2
         have hx := b1
         have hy := b0
         cases eR
         have co := (show (⟨(ai.add ((T).toNat * 5)).block, (ai.add ((T).toNat * 5)).off + 4, none⟩ : Addr).block ≠ g from by first | (rw [add_block]; exact Kd.foot_ne ac.out (by omega) (by decide)) | (show (Addr.add _ _).block ≠ _; rw [add_block]; exact Kd.foot_ne ac.out (by omega) (by decide)) | exact Kd.foot_ne ac.out (by omega) (by decide) | (dsimp only; exact Kd.foot_ne ac.out (by omega) (by decide)))
         have bG := (Kd.foot_lt ac.out (by omega) (by decide))
         have cp := (show (⟨(ai.add ((T).toNat * 5)).block, (ai.add ((T).toNat * 5)).off + 3, none⟩ : Addr).block ≠ g from by first | (rw [add_block]; exact Kd.foot_ne ac.out (by omega) (by decide)) | (show (Addr.add _ _).block ≠ _; rw [add_block]; exact Kd.foot_ne ac.out (by omega) (by decide)) | exact Kd.foot_ne ac.out (by omega) (by decide) | (dsimp only; exact Kd.foot_ne ac.out (by omega) (by decide)))
         have bH := (Kd.foot_lt ac.out (by omega) (by decide))
         have ct := (show (⟨(ai.add ((T).toNat * 5)).block, (ai.add ((T).toNat * 5)).off + 2, none⟩ : Addr).block ≠ g from by first | (rw [add_block]; exact Kd.foot_ne ac.out (by omega) (by decide)) | (show (Addr.add _ _).block ≠ _; rw [add_block]; exact Kd.foot_ne ac.out (by omega) (by decide)) | exact Kd.foot_ne ac.out (by omega) (by decide) | (dsimp only; exact Kd.foot_ne ac.out (by omega) (by decide)))
         have bI := (Kd.foot_lt ac.out (by omega) (by decide))
         have cu := (show (⟨(ai.add ((T).toNat * 5)).block, (ai.add ((T).toNat * 5)).off + 1, none⟩ : Addr).block ≠ g from by first | (rw [add_block]; exact Kd.foot_ne ac.out (by omega) (by decide)) | (show (Addr.add _ _).block ≠ _; rw [add_block]; exact Kd.foot_ne ac.out (by omega) (by decide)) | exact Kd.foot_ne ac.out (by omega) (by decide) | (dsimp only; exact Kd.foot_ne ac.out (by omega) (by decide)))
         have bJ := (Kd.foot_lt ac.out (by omega) (by decide))
         have cv := (show ((ai.add ((T).toNat * 5)) : Addr).block ≠ g from by first | (rw [add_block]; exact Kd.foot_ne ac.out (by omega) (by decide)) | (show (Addr.add _ _).block ≠ _; rw [add_block]; exact Kd.foot_ne ac.out (by omega) (by decide)) | exact Kd.foot_ne ac.out (by omega) (by decide) | (dsimp only; exact Kd.foot_ne ac.out (by omega) (by decide)))
         have bK := (Kd.foot_lt ac.out (by omega) (by decide))
         replace bY := eq_true bY
         replace bZ := eq_true bZ
         refine sta 11 (fun w' => w'.cell? ⟨bw, 0, none⟩ = some (.slice aO aa.length aH) ∧ w'.cell? ⟨bw, 1, none⟩ = some (.slice (some ai) J.length aI) ∧ w'.cell? (ai.add ((T).toNat * 5)) = some (.int .i64 ((rd_T56 J T).f0)) ∧ w'.cell? ⟨(ai.add ((T).toNat * 5)).block, (ai.add ((T).toNat * 5)).off + 1, none⟩ = some (.int .i64 ((rd_T56 J T).f1.f0)) ∧ w'.cell? ⟨(ai.add ((T).toNat * 5)).block, (ai.add ((T).toNat * 5)).off + 2, none⟩ = some (.int .i64 ((rd_T56 J T).f1.f1)) ∧ w'.cell? ⟨(ai.add ((T).toNat * 5)).block, (ai.add ((T).toNat * 5)).off + 3, none⟩ = some (.int .i64 ((rd_T56 J T).f2.f0)) ∧ w'.cell? ⟨(ai.add ((T).toNat * 5)).block, (ai.add ((T).toNat * 5)).off + 4, none⟩ = some (.int .i64 ((rd_T56 J T).f2.f1))) [] ⟨cx D 0, cx D 1, b0, b1, b2, b3, b4⟩ (fun hHeld => ?_); refine with_tabW spec_l2Op.tab10 spec_l2Op.bits10 (fun HT_ HW_ => ?_)
         generalize eQ.drew = hz at Z D G y z HK HB b0 b1 b2 b3 b4 hHeld ⊢
         refine pu 0 38 ?_
         refine pu 2 40 ?_
         refine pu 3 41 ?_
         refine tk 1 39 ?_
         refine tk 4 42 ?_
         refine pu 5 43 ?_
         refine on 6 44 (fun K hK => ?_)
         refine gs Try.func120 #[.pointer (some ⟨g, 0, none⟩), .int .i64 (J.length : Int)] ?_
         with_reducible refine (spec_l9Rd_pick.calls k g O bX (J.length : Int) T df w0 _ ?X ?Y ey.out).mono ?_
         (case X => exact iis z.out)
         (case Y => exact bs HB.out)
         rintro e bL ⟨rfl, hi, hb, hk⟩
         have cy := keep_cell hk (hHeld.2.2.1) (by first | (rw [add_block]; exact cv) | (show (Addr.add _ _).block ≠ _; rw [add_block]; exact cv) | exact cv)
         have cz := keep_cell hk (hHeld.2.2.2.1) (by first | (rw [add_block]; exact cu) | (show (Addr.add _ _).block ≠ _; rw [add_block]; exact cu) | exact cu)
         have eS := keep_cell hk (hHeld.2.2.2.2.1) (by first | (rw [add_block]; exact ct) | (show (Addr.add _ _).block ≠ _; rw [add_block]; exact ct) | exact ct)
         have eT := keep_cell hk (hHeld.2.2.2.2.2.1) (by first | (rw [add_block]; exact cp) | (show (Addr.add _ _).block ≠ _; rw [add_block]; exact cp) | exact cp)
         have eU := keep_cell hk (hHeld.2.2.2.2.2.2) (by first | (rw [add_block]; exact co) | (show (Addr.add _ _).block ≠ _; rw [add_block]; exact co) | exact co)
         refine ⟨_, rfl, ?_⟩
         replace D := kk D hk
         replace G := kk G hk
         replace Z := ro Z z hk
         replace y := kk y hk
         replace HK := kt HK hk
         replace HB := am hb
         replace z := am hi
         (try clear hb)
         (try clear hb2)
         (try clear hk)
         (try clear hi)
         refine hK.out _ _ ⟨cx D 0, cx D 1, cy, cz, eS, eT, eU⟩ (fun hHeld => ?_)
         clear hK K
         refine nrm 44 ?_
         refine pu 7 45 ?_
         refine tk 8 46 ?_
         refine pu 9 47 ?_
         refine on0 10 (fun K hK => ?_)
         have hA : bL.cell? ⟨L, 3, none⟩ = some (.int .i64 au) := cx y 3
         have hC := blk_frozen y.out 3
         have hD := ab.out
         have hE := ag.out
         have hF := af.out
         have hG := ah.out
         have hH : bL.cell? ⟨L, 4, none⟩ = some (.int .i64 av) := cx y 4
         have hJ := blk_frozen y.out 4
         have hL := ab.out
         have hM := ag.out
         have hO := af.out
         have hP := ah.out
         have hR : bL.cell? ⟨L, 5, none⟩ = some (.int .i64 aw) := cx y 5
         have hT := blk_frozen y.out 5
         have hU := ab.out
         have hV := ag.out
         have hW := af.out
         have hX := ah.out
         have hY : bL.cell? ⟨L, 6, none⟩ = some (.int .i64 ax) := cx y 6
         have hZ := blk_frozen y.out 6
         have h0 := ab.out
         have h1 := ag.out
         have h2 := af.out
         have h3 := ah.out
         have h4 : bL.cell? ⟨L, 7, none⟩ = some (.int .i64 ay) := cx y 7
         have h5 := blk_frozen y.out 7
         have h6 := ab.out
         have h7 := ag.out
         have h8 := af.out
         have h9 := ah.out
         refine sk ?_
         refine hK.out _ _ ⟨((cell_far (p := ⟨L, _, none⟩) ab.out _).trans (((cell_far (p := ⟨L, _, none⟩) ab.out _).trans (((cell_far (p := ⟨L, _, none⟩) ab.out _).trans (((cell_far (p := ⟨L, _, none⟩) ab.out _).trans (((cell_far (p := ⟨L, _, none⟩) ab.out _).trans (hHeld.1)))))))))), ((cell_far (p := ⟨L, _, none⟩) ab.out _).trans (((cell_far (p := ⟨L, _, none⟩) ab.out _).trans (((cell_far (p := ⟨L, _, none⟩) ab.out _).trans (((cell_far (p := ⟨L, _, none⟩) ab.out _).trans (((cell_far (p := ⟨L, _, none⟩) ab.out _).trans (hHeld.2.1)))))))))), ((cell_far (p := ⟨L, _, none⟩) (nl2 bK ad) _).trans (((cell_far (p := ⟨L, _, none⟩) (nl2 bK ad) _).trans (((cell_far (p := ⟨L, _, none⟩) (nl2 bK ad) _).trans (((cell_far (p := ⟨L, _, none⟩) (nl2 bK ad) _).trans (((cell_far (p := ⟨L, _, none⟩) (nl2 bK ad) _).trans (hHeld.2.2.1)))))))))), ((cell_far (p := ⟨L, _, none⟩) (nl2 bJ ad) _).trans (((cell_far (p := ⟨L, _, none⟩) (nl2 bJ ad) _).trans (((cell_far (p := ⟨L, _, none⟩) (nl2 bJ ad) _).trans (((cell_far (p := ⟨L, _, none⟩) (nl2 bJ ad) _).trans (((cell_far (p := ⟨L, _, none⟩) (nl2 bJ ad) _).trans (hHeld.2.2.2.1)))))))))), ((cell_far (p := ⟨L, _, none⟩) (nl2 bI ad) _).trans (((cell_far (p := ⟨L, _, none⟩) (nl2 bI ad) _).trans (((cell_far (p := ⟨L, _, none⟩) (nl2 bI ad) _).trans (((cell_far (p := ⟨L, _, none⟩) (nl2 bI ad) _).trans (((cell_far (p := ⟨L, _, none⟩) (nl2 bI ad) _).trans (hHeld.2.2.2.2.1)))))))))), ((cell_far (p := ⟨L, _, none⟩) (nl2 bH ad) _).trans (((cell_far (p := ⟨L, _, none⟩) (nl2 bH ad) _).trans (((cell_far (p := ⟨L, _, none⟩) (nl2 bH ad) _).trans (((cell_far (p := ⟨L, _, none⟩) (nl2 bH ad) _).trans (((cell_far (p := ⟨L, _, none⟩) (nl2 bH ad) _).trans (hHeld.2.2.2.2.2.1)))))))))), ((cell_far (p := ⟨L, _, none⟩) (nl2 bG ad) _).trans (((cell_far (p := ⟨L, _, none⟩) (nl2 bG ad) _).trans (((cell_far (p := ⟨L, _, none⟩) (nl2 bG ad) _).trans (((cell_far (p := ⟨L, _, none⟩) (nl2 bG ad) _).trans (((cell_far (p := ⟨L, _, none⟩) (nl2 bG ad) _).trans (hHeld.2.2.2.2.2.2))))))))))⟩ (fun hHeld => ?_)
         clear hK K
         refine dn ?_
         try go_wp2
         go_meet
         case rel => exact ⟨_, (df), (0), (0), ((rd_T56 J T).f0), ((rd_T56 J T).f1.f0), ((rd_T56 J T).f1.f1), ((rd_T56 J T).f2.f0), ((rd_T56 J T).f2.f1), H', ⟨by first | omega | exact Nat.le_refl _⟩, ⟨bf D.out⟩, ⟨bf G.out⟩, ⟨by (with_reducible repeat (first | refine blk_drewN ?_ _ | refine blk_drew ?_ | refine blk_alloc ?_ _)); refine blk_put (cs := #[.int .i64 I, .int .i64 0, .int .i64 0, .int .i64 ((rd_T56 J T).f0), .int .i64 ((rd_T56 J T).f1.f0), .int .i64 ((rd_T56 J T).f1.f1), .int .i64 ((rd_T56 J T).f2.f0), .int .i64 ay]) ?_ 7 _ rfl; (with_reducible repeat (first | refine blk_drewN ?_ _ | refine blk_drew ?_ | refine blk_alloc ?_ _)); refine blk_put (cs := #[.int .i64 I, .int .i64 0, .int .i64 0, .int .i64 ((rd_T56 J T).f0), .int .i64 ((rd_T56 J T).f1.f0), .int .i64 ((rd_T56 J T).f1.f1), .int .i64 ax, .int .i64 ay]) ?_ 6 _ rfl; (with_reducible repeat (first | refine blk_drewN ?_ _ | refine blk_drew ?_ | refine blk_alloc ?_ _)); refine blk_put (cs := #[.int .i64 I, .int .i64 0, .int .i64 0, .int .i64 ((rd_T56 J T).f0), .int .i64 ((rd_T56 J T).f1.f0), .int .i64 aw, .int .i64 ax, .int .i64 ay]) ?_ 5 _ rfl; (with_reducible repeat (first | refine blk_drewN ?_ _ | refine blk_drew ?_ | refine blk_alloc ?_ _)); refine blk_put (cs := #[.int .i64 I, .int .i64 0, .int .i64 0, .int .i64 ((rd_T56 J T).f0), .int .i64 av, .int .i64 aw, .int .i64 ax, .int .i64 ay]) ?_ 4 _ rfl; (with_reducible repeat (first | refine blk_drewN ?_ _ | refine blk_drew ?_ | refine blk_alloc ?_ _)); refine blk_put (cs := #[.int .i64 I, .int .i64 0, .int .i64 0, .int .i64 au, .int .i64 av, .int .i64 aw, .int .i64 ax, .int .i64 ay]) ?_ 3 _ rfl; exact bf y.out⟩, ⟨iis z.out⟩, ⟨ks HK.out⟩, ⟨bs HB.out⟩⟩
        ·rw [if_neg bF] at H
         exact absurd H (by simp)
       ·rw [if_neg bE] at H
        exact absurd H (by simp)
      ·rw [if_neg a6] at H
       have de : decide (0 < bD) = false := decide_eq_false a6
       clear a6
       have H' := am H
       clear H
       have ia := aA.out
       have ic := aB.out
       have ie := ab.out
       have ig := af.out
       have ih := aZ.out
       have ii := aT.out
       obtain ⟨eV, eW⟩ := bc2 (w := bB) D.out
       have eX := blk_frozen D.out
       go_wp2_with (first | ((with_reducible refine gc 122 rfl ?_); refine gl 27 Try.func122 #[.pointer (some ⟨g, 0, none⟩), .agg #[.slice aO aa.length aH, .slice aP J.length aI]] ?_; (with_reducible refine (spec_l2Edge.calls k g O aJ _ _ aa _ _ J au av aw ax ay bn w0 _ ?X ?Y ?an ?ao ?ap ?a4 cn.out).mono ?_); (case X => exact iis z.out); (case Y => exact bs HB.out); (case an => exact Kd.C_foot_step al.out (ks HK.out)); (case ao => exact bU.out); (case ap => exact Kd.C_foot_step ac.out (ks HK.out)); (case a4 => exact bV.out); rintro e di ⟨rfl, hi, hb, hk⟩; refine ⟨_, rfl, ?_⟩; replace D := kk D hk; replace G := kk G hk; replace Z := rp Z y z hk; replace y := kp #[.int .i64 I, .int .i64 0, .int .i64 0, .int .i64 0, .int .i64 0, .int .i64 0, .int .i64 0, .int .i64 0] y hk; replace HK := kt HK hk; replace HB := am hb; replace z := am hi; (try clear hi hb hk); have ij := ah.out; have ik := ag.out; have il := ar.out; have im := aq.out; obtain ⟨eY, eZ, e0, e1, e2, e3, e4, e5⟩ := bc8 (w := di) y.out; have e6 := blk_frozen y.out; obtain ⟨e7, e8⟩ := bc2 (w := di) D.out; have e9 := blk_frozen D.out) | (go_at_call 120; (with_reducible refine (spec_l9Rd_pick.calls k g O bn 4 bD bX w0 _ ?X ?Y dd.out).mono ?_); (case X => exact iis z.out); (case Y => exact bs HB.out); rintro e io ⟨rfl, hi, hb, hk⟩; replace D := kk D hk; replace G := kk G hk; replace Z := rp Z y z hk; replace y := kp #[.int .i64 I, .int .i64 0, .int .i64 0, .int .i64 au, .int .i64 av, .int .i64 aw, .int .i64 ax, .int .i64 ay] y hk; replace HK := kt HK hk; replace HB := am hb; replace z := am hi; (try clear hi hb hk)))
       go_meet
       case rel => exact ⟨_, (bX), (0), (0), (au), (av), (aw), (ax), (ay), H', ⟨by first | omega | exact Nat.le_refl _⟩, ⟨bf D.out⟩, ⟨bf G.out⟩, ⟨bf y.out⟩, ⟨iis z.out⟩, ⟨ks HK.out⟩, ⟨bs HB.out⟩⟩
     ·rw [if_neg a5] at H
      have da : decide (0 < (J.length : Int)) = false := decide_eq_false a5
      have db : decide (0 < J.length) = false := decide_eq_false (by omega)
      clear a5
      have H' := am H
      clear H
      have ip := aA.out
      have iq := aB.out
      have ir := ab.out
      have it := af.out
      have iu := aZ.out
      have iv := aT.out
      obtain ⟨fa, fb⟩ := bc2 (w := bB) D.out
      have fc := blk_frozen D.out
      go_wp2_with (first | ((with_reducible refine gc 122 rfl ?_); refine gl 27 Try.func122 #[.pointer (some ⟨g, 0, none⟩), .agg #[.slice aO aa.length aH, .slice aP J.length aI]] ?_; (with_reducible refine (spec_l2Edge.calls k g O aJ _ _ aa _ _ J au av aw ax ay bn w0 _ ?X ?Y ?an ?ao ?ap ?a4 cn.out).mono ?_); (case X => exact iis z.out); (case Y => exact bs HB.out); (case an => exact Kd.C_foot_step al.out (ks HK.out)); (case ao => exact bU.out); (case ap => exact Kd.C_foot_step ac.out (ks HK.out)); (case a4 => exact bV.out); rintro e dj ⟨rfl, hi, hb, hk⟩; refine ⟨_, rfl, ?_⟩; replace D := kk D hk; replace G := kk G hk; replace Z := rp Z y z hk; replace y := kp #[.int .i64 I, .int .i64 0, .int .i64 0, .int .i64 0, .int .i64 0, .int .i64 0, .int .i64 0, .int .i64 0] y hk; replace HK := kt HK hk; replace HB := am hb; replace z := am hi; (try clear hi hb hk); have iw := ah.out; have ix := ag.out; have iy := ar.out; have iz := aq.out; obtain ⟨fd, fe, ff, fg, fh, fi, fj, fk⟩ := bc8 (w := dj) y.out; have fl := blk_frozen y.out; obtain ⟨fm, fo⟩ := bc2 (w := dj) D.out; have fp := blk_frozen D.out))
      go_meet
      case rel => exact ⟨_, (bn), (0), (0), (au), (av), (aw), (ax), (ay), H', ⟨by first | omega | exact Nat.le_refl _⟩, ⟨bf D.out⟩, ⟨bf G.out⟩, ⟨by (with_reducible repeat (first | refine blk_drewN ?_ _ | refine blk_drew ?_ | refine blk_alloc ?_ _)); refine blk_put (cs := #[.int .i64 I, .int .i64 0, .int .i64 0, .int .i64 au, .int .i64 av, .int .i64 aw, .int .i64 ax, .int .i64 0]) ?_ 7 _ rfl; (with_reducible repeat (first | refine blk_drewN ?_ _ | refine blk_drew ?_ | refine blk_alloc ?_ _)); refine blk_put (cs := #[.int .i64 I, .int .i64 0, .int .i64 0, .int .i64 au, .int .i64 av, .int .i64 aw, .int .i64 0, .int .i64 0]) ?_ 6 _ rfl; (with_reducible repeat (first | refine blk_drewN ?_ _ | refine blk_drew ?_ | refine blk_alloc ?_ _)); refine blk_put (cs := #[.int .i64 I, .int .i64 0, .int .i64 0, .int .i64 au, .int .i64 av, .int .i64 0, .int .i64 0, .int .i64 0]) ?_ 5 _ rfl; (with_reducible repeat (first | refine blk_drewN ?_ _ | refine blk_drew ?_ | refine blk_alloc ?_ _)); refine blk_put (cs := #[.int .i64 I, .int .i64 0, .int .i64 0, .int .i64 au, .int .i64 0, .int .i64 0, .int .i64 0, .int .i64 0]) ?_ 4 _ rfl; (with_reducible repeat (first | refine blk_drewN ?_ _ | refine blk_drew ?_ | refine blk_alloc ?_ _)); refine blk_put (cs := #[.int .i64 I, .int .i64 0, .int .i64 0, .int .i64 0, .int .i64 0, .int .i64 0, .int .i64 0, .int .i64 0]) ?_ 3 _ rfl; exact bf y.out⟩, ⟨iis z.out⟩, ⟨ks HK.out⟩, ⟨bs HB.out⟩⟩
    ·rw [if_neg aX] at H
     have cY : (I == 3) = false := beq_eq_false_iff_ne.mpr aX
     have cZ : (I != 3) = true := bne_iff_ne.mpr aX
     by_cases aY : I = 4
     ·rw [if_pos aY] at H
      have dk : (I == 4) = true := beq_iff_eq.mpr aY
      have dl : (I != 4) = false := bne_eq_false_iff_eq.mpr aY
      clear aY
      replace H := Option.bind_eq_some_iff.mp H
      obtain ⟨⟨aM, aN, bo⟩, dm, H⟩ := H
      try dsimp -simprocs only at H
      have cA := am dm
      clear dm
      by_cases a7 : (aa.length : Int) > 0
      ·rw [if_pos a7] at H
       have dp : decide (0 < (aa.length : Int)) = true := decide_eq_true a7
       have dq : decide (0 < aa.length) = true := decide_eq_true (by omega)
       clear a7
       replace H := Option.bind_eq_some_iff.mp H
       obtain ⟨⟨bM, b5⟩, dr, H⟩ := H
       try dsimp -simprocs only at H
       have dt := am dr
       clear dr
       by_cases a8 : bM > 0
       ·rw [if_pos a8] at H
        have du : decide (0 < bM) = true := decide_eq_true a8
        clear a8
        replace H := Option.bind_eq_some_iff.mp H
        obtain ⟨⟨aj, dv⟩, dw, H⟩ := H
        try dsimp -simprocs only at H
        have fq := am dw
        clear dw
        by_cases bN : 0 ≤ aj
        ·rw [if_pos bN] at H
         have fr : decide (0 ≤ aj) = true := decide_eq_true bN
         clear bN
         by_cases bO : aj < (aa.length : Int)
         ·rw [if_pos bO] at H
          have fs : decide (aj < (aa.length : Int)) = true := decide_eq_true bO
          clear bO
          have H' := am H
          clear H
          try go_wp2_with (first | ((with_reducible refine gc 121 rfl ?_); refine gl 51 Try.func121 #[.pointer (some ⟨g, 0, none⟩)] ?_; (with_reducible refine (spec_l2Node.calls k g O aJ aM aN bo w0 _ ?X ?Y cA.out).mono ?_); (case X => exact iis z.out); (case Y => exact bs HB.out); rintro e dx ⟨rfl, hi, hb, hk⟩; refine ⟨_, rfl, ?_⟩; replace D := kk D hk; replace G := kk G hk; replace Z := rp Z y z hk; replace y := kp #[.int .i64 I, .int .i64 0, .int .i64 0, .int .i64 0, .int .i64 0, .int .i64 0, .int .i64 0, .int .i64 0] y hk; replace HK := kt HK hk; replace HB := am hb; replace z := am hi; (try clear hi hb hk); have iA := af.out; have iB := ab.out; have iC := ah.out; have iD := ag.out; have iE := ar.out; have iF := aq.out; obtain ⟨ft, fu, fv, fw, fx, fy, fz, fA⟩ := bc8 (w := dx) y.out; have fB := blk_frozen y.out; have iG := aA.out; have iH := aB.out; have iI := aZ.out; have iJ := aT.out; obtain ⟨fC, fD⟩ := bc2 (w := dx) D.out; have fE := blk_frozen D.out) | (go_at_call 120; (with_reducible refine (spec_l9Rd_pick.calls k g O bo 2 bM b5 w0 _ ?X ?Y dt.out).mono ?_); (case X => exact iis z.out); (case Y => exact bs HB.out); rintro e fF ⟨rfl, hi, hb, hk⟩; replace D := kk D hk; replace G := kk G hk; replace Z := rp Z y z hk; replace y := kp #[.int .i64 I, .int .i64 aM, .int .i64 aN, .int .i64 0, .int .i64 0, .int .i64 0, .int .i64 0, .int .i64 0] y hk; replace HK := kt HK hk; replace HB := am hb; replace z := am hi; (try clear hi hb hk)))
          replace Z := rd_ Z
          replace D := bd D
          replace G := bd G
          replace y := bd y
          replace z := am (IsS126.drew z.out)
          replace HK := am (keep_drew HK.out)
          replace HB := hd HB
          have b6 : 0 ≤ (aj : Int) := oda
          have b7 : aj < (aa.length : Int) := oda
          obtain ⟨a9, fG, b8, b9⟩ := at_T36 (Kd.C_foot_now al.out HK.out) aj b6 b7
          have iK := b9
          have iL := b8
          cases fG
          have cB := (show (⟨(a9.add ((aj).toNat * 2)).block, (a9.add ((aj).toNat * 2)).off + 1, none⟩ : Addr).block ≠ g from by first | (rw [add_block]; exact Kd.foot_ne al.out (by omega) (by decide)) | (show (Addr.add _ _).block ≠ _; rw [add_block]; exact Kd.foot_ne al.out (by omega) (by decide)) | exact Kd.foot_ne al.out (by omega) (by decide) | (dsimp only; exact Kd.foot_ne al.out (by omega) (by decide)))
          have dy := (Kd.foot_lt al.out (by omega) (by decide))
          have cC := (show ((a9.add ((aj).toNat * 2)) : Addr).block ≠ g from by first | (rw [add_block]; exact Kd.foot_ne al.out (by omega) (by decide)) | (show (Addr.add _ _).block ≠ _; rw [add_block]; exact Kd.foot_ne al.out (by omega) (by decide)) | exact Kd.foot_ne al.out (by omega) (by decide) | (dsimp only; exact Kd.foot_ne al.out (by omega) (by decide)))
          have dz := (Kd.foot_lt al.out (by omega) (by decide))
          replace b6 := eq_true b6
          replace b7 := eq_true b7
          refine sta 11 (fun w' => w'.cell? ⟨bw, 0, none⟩ = some (.slice (some a9) aa.length aH) ∧ w'.cell? ⟨bw, 1, none⟩ = some (.slice aP J.length aI) ∧ w'.cell? (a9.add ((aj).toNat * 2)) = some (.int .i64 ((rd_T36 aa aj).f0)) ∧ w'.cell? ⟨(a9.add ((aj).toNat * 2)).block, (a9.add ((aj).toNat * 2)).off + 1, none⟩ = some (.int .i64 ((rd_T36 aa aj).f1))) [] ⟨cx D 0, cx D 1, b8, b9⟩ (fun hHeld => ?_); refine with_tabW spec_l2Op.tab14 spec_l2Op.bits14 (fun HT_ HW_ => ?_)
          generalize fF.drew = iM at Z D G y z HK HB b8 b9 hHeld ⊢
          refine pu 0 62 ?_
          refine pu 2 64 ?_
          refine pu 3 65 ?_
          refine tk 1 63 ?_
          refine tk 4 66 ?_
          refine pu 5 67 ?_
          refine on 6 68 (fun K hK => ?_)
          refine gs Try.func120 #[.pointer (some ⟨g, 0, none⟩), .int .i64 (aa.length : Int)] ?_
          with_reducible refine (spec_l9Rd_pick.calls k g O b5 (aa.length : Int) aj dv w0 _ ?X ?Y fq.out).mono ?_
          (case X => exact iis z.out)
          (case Y => exact bs HB.out)
          rintro e dA ⟨rfl, hi, hb, hk⟩
          have cy := keep_cell hk (hHeld.2.2.1) (by first | (rw [add_block]; exact cC) | (show (Addr.add _ _).block ≠ _; rw [add_block]; exact cC) | exact cC)
          have cz := keep_cell hk (hHeld.2.2.2) (by first | (rw [add_block]; exact cB) | (show (Addr.add _ _).block ≠ _; rw [add_block]; exact cB) | exact cB)
          refine ⟨_, rfl, ?_⟩
          replace D := kk D hk
          replace G := kk G hk
          replace Z := ro Z z hk
          replace y := kk y hk
          replace HK := kt HK hk
          replace HB := am hb
          replace z := am hi
          (try clear hb)
          (try clear hb2)
          (try clear hk)
          (try clear hi)
          refine hK.out _ _ ⟨cx D 0, cx D 1, cy, cz⟩ (fun hHeld => ?_)
          clear hK K
          refine nrm 68 ?_
          refine pu 7 69 ?_
          refine tk 8 70 ?_
          refine pu 9 71 ?_
          refine on0 10 (fun K hK => ?_)
          have iN : dA.cell? ⟨L, 1, none⟩ = some (.int .i64 aM) := cx y 1
          have iO := blk_frozen y.out 1
          have iP := ab.out
          have iQ := ag.out
          have iR := af.out
          have iS := ah.out
          have iT : dA.cell? ⟨L, 2, none⟩ = some (.int .i64 aN) := cx y 2
          have iU := blk_frozen y.out 2
          have iV := ab.out
          have iW := ag.out
          have iX := af.out
          have iY := ah.out
          refine sk ?_
          refine hK.out _ _ ⟨((cell_far (p := ⟨L, _, none⟩) ab.out _).trans (((cell_far (p := ⟨L, _, none⟩) ab.out _).trans (hHeld.1)))), ((cell_far (p := ⟨L, _, none⟩) ab.out _).trans (((cell_far (p := ⟨L, _, none⟩) ab.out _).trans (hHeld.2.1)))), ((cell_far (p := ⟨L, _, none⟩) (nl2 dz ad) _).trans (((cell_far (p := ⟨L, _, none⟩) (nl2 dz ad) _).trans (hHeld.2.2.1)))), ((cell_far (p := ⟨L, _, none⟩) (nl2 dy ad) _).trans (((cell_far (p := ⟨L, _, none⟩) (nl2 dy ad) _).trans (hHeld.2.2.2))))⟩ (fun hHeld => ?_)
          clear hK K
          refine dn ?_
          try go_wp2
          go_meet
          case rel => exact ⟨_, (dv), ((rd_T36 aa aj).f0), ((rd_T36 aa aj).f1), (0), (0), (0), (0), (0), H', ⟨by first | omega | exact Nat.le_refl _⟩, ⟨bf D.out⟩, ⟨bf G.out⟩, ⟨by (with_reducible repeat (first | refine blk_drewN ?_ _ | refine blk_drew ?_ | refine blk_alloc ?_ _)); refine blk_put (cs := #[.int .i64 I, .int .i64 ((rd_T36 aa aj).f0), .int .i64 aN, .int .i64 0, .int .i64 0, .int .i64 0, .int .i64 0, .int .i64 0]) ?_ 2 _ rfl; (with_reducible repeat (first | refine blk_drewN ?_ _ | refine blk_drew ?_ | refine blk_alloc ?_ _)); refine blk_put (cs := #[.int .i64 I, .int .i64 aM, .int .i64 aN, .int .i64 0, .int .i64 0, .int .i64 0, .int .i64 0, .int .i64 0]) ?_ 1 _ rfl; exact bf y.out⟩, ⟨iis z.out⟩, ⟨ks HK.out⟩, ⟨bs HB.out⟩⟩
         ·rw [if_neg bO] at H
          exact absurd H (by simp)
        ·rw [if_neg bN] at H
         exact absurd H (by simp)
       ·rw [if_neg a8] at H
        have du : decide (0 < bM) = false := decide_eq_false a8
        clear a8
        have H' := am H
        clear H
        go_wp2_with (first | ((with_reducible refine gc 121 rfl ?_); refine gl 51 Try.func121 #[.pointer (some ⟨g, 0, none⟩)] ?_; (with_reducible refine (spec_l2Node.calls k g O aJ aM aN bo w0 _ ?X ?Y cA.out).mono ?_); (case X => exact iis z.out); (case Y => exact bs HB.out); rintro e dB ⟨rfl, hi, hb, hk⟩; refine ⟨_, rfl, ?_⟩; replace D := kk D hk; replace G := kk G hk; replace Z := rp Z y z hk; replace y := kp #[.int .i64 I, .int .i64 0, .int .i64 0, .int .i64 0, .int .i64 0, .int .i64 0, .int .i64 0, .int .i64 0] y hk; replace HK := kt HK hk; replace HB := am hb; replace z := am hi; (try clear hi hb hk); have iZ := af.out; have i0 := ab.out; have i1 := ah.out; have i2 := ag.out; have i3 := ar.out; have i4 := aq.out; obtain ⟨fH, fI, fJ, fK, fL, fM, fN, fO⟩ := bc8 (w := dB) y.out; have fP := blk_frozen y.out; have i5 := aA.out; have i6 := aB.out; have i7 := aZ.out; have i8 := aT.out; obtain ⟨fQ, fR⟩ := bc2 (w := dB) D.out; have fS := blk_frozen D.out) | (go_at_call 120; (with_reducible refine (spec_l9Rd_pick.calls k g O bo 2 bM b5 w0 _ ?X ?Y dt.out).mono ?_); (case X => exact iis z.out); (case Y => exact bs HB.out); rintro e i9 ⟨rfl, hi, hb, hk⟩; replace D := kk D hk; replace G := kk G hk; replace Z := rp Z y z hk; replace y := kp #[.int .i64 I, .int .i64 aM, .int .i64 aN, .int .i64 0, .int .i64 0, .int .i64 0, .int .i64 0, .int .i64 0] y hk; replace HK := kt HK hk; replace HB := am hb; replace z := am hi; (try clear hi hb hk)))
        go_meet
        case rel => exact ⟨_, (b5), (aM), (aN), (0), (0), (0), (0), (0), H', ⟨by first | omega | exact Nat.le_refl _⟩, ⟨bf D.out⟩, ⟨bf G.out⟩, ⟨bf y.out⟩, ⟨iis z.out⟩, ⟨ks HK.out⟩, ⟨bs HB.out⟩⟩
      ·rw [if_neg a7] at H
       have dp : decide (0 < (aa.length : Int)) = false := decide_eq_false a7
       have dq : decide (0 < aa.length) = false := decide_eq_false (by omega)
       clear a7
       have H' := am H
       clear H
       go_wp2_with (first | ((with_reducible refine gc 121 rfl ?_); refine gl 51 Try.func121 #[.pointer (some ⟨g, 0, none⟩)] ?_; (with_reducible refine (spec_l2Node.calls k g O aJ aM aN bo w0 _ ?X ?Y cA.out).mono ?_); (case X => exact iis z.out); (case Y => exact bs HB.out); rintro e dC ⟨rfl, hi, hb, hk⟩; refine ⟨_, rfl, ?_⟩; replace D := kk D hk; replace G := kk G hk; replace Z := rp Z y z hk; replace y := kp #[.int .i64 I, .int .i64 0, .int .i64 0, .int .i64 0, .int .i64 0, .int .i64 0, .int .i64 0, .int .i64 0] y hk; replace HK := kt HK hk; replace HB := am hb; replace z := am hi; (try clear hi hb hk); have ja := af.out; have jb := ab.out; have jc := ah.out; have jd := ag.out; have je := ar.out; have jf := aq.out; obtain ⟨fT, fU, fV, fW, fX, fY, fZ, f3⟩ := bc8 (w := dC) y.out; have f4 := blk_frozen y.out; have jg := aA.out; have jh := aB.out; have ji := aZ.out; have jj := aT.out; obtain ⟨f5, f6⟩ := bc2 (w := dC) D.out; have f7 := blk_frozen D.out))
       go_meet
       case rel => exact ⟨_, (bo), (aM), (aN), (0), (0), (0), (0), (0), H', ⟨by first | omega | exact Nat.le_refl _⟩, ⟨bf D.out⟩, ⟨bf G.out⟩, ⟨by (with_reducible repeat (first | refine blk_drewN ?_ _ | refine blk_drew ?_ | refine blk_alloc ?_ _)); refine blk_put (cs := #[.int .i64 I, .int .i64 aM, .int .i64 0, .int .i64 0, .int .i64 0, .int .i64 0, .int .i64 0, .int .i64 0]) ?_ 2 _ rfl; (with_reducible repeat (first | refine blk_drewN ?_ _ | refine blk_drew ?_ | refine blk_alloc ?_ _)); refine blk_put (cs := #[.int .i64 I, .int .i64 0, .int .i64 0, .int .i64 0, .int .i64 0, .int .i64 0, .int .i64 0, .int .i64 0]) ?_ 1 _ rfl; exact bf y.out⟩, ⟨iis z.out⟩, ⟨ks HK.out⟩, ⟨bs HB.out⟩⟩
     ·rw [if_neg aY] at H
      have dk : (I == 4) = false := beq_eq_false_iff_ne.mpr aY
      have dl : (I != 4) = true := bne_iff_ne.mpr aY
      have H' := am H
      clear H
      go_wp2
      go_meet
      case rel => exact ⟨_, (aJ), (0), (0), (0), (0), (0), (0), (0), H', ⟨by first | omega | exact Nat.le_refl _⟩, ⟨bf D.out⟩, ⟨bf G.out⟩, ⟨by (with_reducible repeat (first | refine blk_drewN ?_ _ | refine blk_drew ?_ | refine blk_alloc ?_ _)); refine blk_put (cs := #[.int .i64 I, .int .i64 0, .int .i64 0, .int .i64 0, .int .i64 0, .int .i64 0, .int .i64 0, .int .i64 0]) ?_ 7 _ rfl; (with_reducible repeat (first | refine blk_drewN ?_ _ | refine blk_drew ?_ | refine blk_alloc ?_ _)); refine blk_put (cs := #[.int .i64 I, .int .i64 0, .int .i64 0, .int .i64 0, .int .i64 0, .int .i64 0, .int .i64 0, .int .i64 0]) ?_ 6 _ rfl; (with_reducible repeat (first | refine blk_drewN ?_ _ | refine blk_drew ?_ | refine blk_alloc ?_ _)); refine blk_put (cs := #[.int .i64 I, .int .i64 0, .int .i64 0, .int .i64 0, .int .i64 0, .int .i64 0, .int .i64 0, .int .i64 0]) ?_ 5 _ rfl; (with_reducible repeat (first | refine blk_drewN ?_ _ | refine blk_drew ?_ | refine blk_alloc ?_ _)); refine blk_put (cs := #[.int .i64 I, .int .i64 0, .int .i64 0, .int .i64 0, .int .i64 0, .int .i64 0, .int .i64 0, .int .i64 0]) ?_ 4 _ rfl; (with_reducible repeat (first | refine blk_drewN ?_ _ | refine blk_drew ?_ | refine blk_alloc ?_ _)); refine blk_put (cs := #[.int .i64 I, .int .i64 0, .int .i64 0, .int .i64 0, .int .i64 0, .int .i64 0, .int .i64 0, .int .i64 0]) ?_ 3 _ rfl; (with_reducible repeat (first | refine blk_drewN ?_ _ | refine blk_drew ?_ | refine blk_alloc ?_ _)); refine blk_put (cs := #[.int .i64 I, .int .i64 0, .int .i64 0, .int .i64 0, .int .i64 0, .int .i64 0, .int .i64 0, .int .i64 0]) ?_ 2 _ rfl; (with_reducible repeat (first | refine blk_drewN ?_ _ | refine blk_drew ?_ | refine blk_alloc ?_ _)); refine blk_put (cs := #[.int .i64 I, .int .i64 0, .int .i64 0, .int .i64 0, .int .i64 0, .int .i64 0, .int .i64 0, .int .i64 0]) ?_ 1 _ rfl; (with_reducible repeat (first | refine blk_drewN ?_ _ | refine blk_drew ?_ | refine blk_alloc ?_ _)); refine blk_put (cs := #[.int .i64 0, .int .i64 0, .int .i64 0, .int .i64 0, .int .i64 0, .int .i64 0, .int .i64 0, .int .i64 0]) ?_ 0 _ rfl; exact bf y.out⟩, ⟨iis z.out⟩, ⟨ks HK.out⟩, ⟨bs HB.out⟩⟩
 case rest =>
  clear ck
  try clear c1
  try clear c2
  try clear p2
  try clear q2
  try clear jk
  try clear c3
  try clear c4
  try clear c5
  try clear c6
  try clear c7
  try clear c8
  try clear c9
  try clear jl
  try clear jm
  try clear jn
  try clear jo
  try clear jp
  try clear aV
  try clear bl
  try clear cP
  try clear jq
  try clear jr
  try clear js
  try clear jt
  try clear ju
  try clear jv
  try clear aW
  try clear cT
  try clear cU
  try clear jw
  try clear jx
  try clear jy
  try clear jz
  try clear jA
  try clear jB
  try clear jC
  try clear jD
  try clear aX
  try clear cY
  try clear cZ
  try clear a5
  try clear da
  try clear db
  try clear a6
  try clear de
  try clear bE
  try clear ez
  try clear bF
  try clear eA
  try clear jE
  try clear jF
  try clear jG
  try clear jH
  try clear jI
  try clear jJ
  try clear jK
  try clear jL
  try clear jM
  try clear jN
  try clear jO
  try clear jP
  try clear jQ
  try clear jR
  try clear jS
  try clear aY
  try clear dk
  try clear dl
  try clear a7
  try clear dp
  try clear dq
  try clear a8
  try clear du
  try clear bN
  try clear fr
  try clear bO
  try clear fs
  try clear jT
  try clear jU
  try clear jV
  try clear jW
  try clear jX
  try clear jY
  try clear jZ
  try clear j1
  try clear j2
  try clear j3
  try clear j4
  try clear j5
  try clear j6
  try clear j7
  try clear j8
  try clear j9
  try clear fH fI fJ fK fL fM fN fO
  try clear fQ fR
  try clear fT fU fV fW fX fY fZ f3
  try clear f5 f6
  try clear d0 d1 d2 d3 d4 d5 d6 d7
  try clear eb ec ed ee ef eg eh ei
  try clear el em
  try clear ep eq er es et eu ev ew
  try clear eB eC
  try clear eE eF eG eH eI eJ eK eL
  try clear eN eO
  try clear eV eW
  try clear eY eZ e0 e1 e2 e3 e4 e5
  try clear e7 e8
  try clear fa fb
  try clear fd fe ff fg fh fi fj fk
  try clear fm fo
  try clear ft fu fv fw fx fy fz fA
  try clear fC fD
  try clear fP
  try clear fS
  try clear f4
  try clear f7
  try clear d8
  try clear ej
  try clear en
  try clear ex
  try clear eD
  try clear eM
  try clear eP
  try clear eX
  try clear e6
  try clear e9
  try clear fc
  try clear fl
  try clear fp
  try clear fB
  try clear fE
  try clear b0
  try clear b1
  try clear b2
  try clear b3
  try clear b4
  try clear b8
  try clear b9
  try clear bY
  try clear b6
  try clear bZ
  try clear b7
  obtain ⟨kq, aU, aE, aQ, aR, aC, aD, aK, aL, HA, ka, D, G, y, z, HK, HB⟩ := hcut
  cases kq with
  | zero => exact absurd HA.out (by simp [spec_l2Op.j0])
  | succ aF =>
   have H := HA.out
   clear HA
   simp only [spec_l2Op.j0] at H
   replace H := Option.bind_eq_some_iff.mp H
   obtain ⟨⟨ae, aG⟩, dD, H⟩ := H
   try dsimp -simprocs only at H
   have bP := am dD
   clear dD
   by_cases ba : ae = 0
   ·rw [if_pos ba] at H
    have f8 : (ae == 0) = true := beq_iff_eq.mpr ba
    have f9 : (ae != 0) = false := bne_eq_false_iff_eq.mpr ba
    clear ba
    obtain ⟨cD, cE⟩ : ∃ y_ : List Int, y_ = (([0, 5, (-1), 2] : List Int)) := ⟨_, rfl⟩
    replace H : ((spec_l9Rd_num.f aF O aG cD).bind fun dE => (some (dE.1, aE, aQ, aR, aC, aD, aK, aL, dE.2))) = some (r1, r2, r3, r4, r5, r6, r7, r8, r9) := by first | (rw [cE]; exact H) | exact H
    have dF := am cE
    clear cE
    replace H := Option.bind_eq_some_iff.mp H
    obtain ⟨⟨dG, ga⟩, dH, H⟩ := H
    try dsimp -simprocs only at H
    have gb := am dH
    clear dH
    simp only [Option.some.injEq, Prod.mk.injEq] at H
    obtain ⟨rfl, rfl, rfl, rfl, rfl, rfl, rfl, rfl, rfl⟩ := H
    go_wp2_with (first | ((with_reducible refine gc 120 rfl ?_); refine gl 73 Try.func120 #[.pointer (some ⟨g, 0, none⟩), .int .i64 60] ?_; (with_reducible refine (spec_l9Rd_pick.calls aF g O aU 60 ae aG w0 _ ?X ?Y bP.out).mono ?_); (case X => exact iis z.out); (case Y => exact bs HB.out); rintro e kc ⟨rfl, hi, hb, hk⟩; refine ⟨_, rfl, ?_⟩; replace D := kk D hk; replace G := kk G hk; replace y := kk y hk; replace HK := kt HK hk; replace HB := am hb; replace z := am hi; (try clear hi hb hk)) | ((with_reducible refine gd 77 rfl ?_); refine Kd.R_lit (Kd.int .i64) _ 3 ?hg (N := 77) ?hd (xs := ([0, 5, (-1), 2] : List Int)) (inner := [.int .i64 0, .int .i64 5, .int .i64 (-1), .int .i64 2]) (ok := fun _ => True) (okp := fun _ => True) ?hr ?hp (fun _ hk => hk) trivial (Below.refl _ _) (Nat.le_refl _) (by simp) ?_; (case hd => rfl); (case hg => rfl); (case hr => first | (go_simp; done) | (go_simp; rfl)); (case hp => exact (Reps.one (show Kd.M (Kd.int .i64) _ _ _ 0 [.int .i64 0] from rfl) (Reps.one (show Kd.M (Kd.int .i64) _ _ _ 5 [.int .i64 5] from rfl) (Reps.one (show Kd.M (Kd.int .i64) _ _ _ (-1) [.int .i64 (-1)] from rfl) (Reps.one (show Kd.M (Kd.int .i64) _ _ _ 2 [.int .i64 2] from rfl) (Reps.none _ _)))))); intro kd ke bQ hb hg_ hnew_; clear hg_ hnew_; (first | rw [← dF.out] at bQ | (simp only [Int.reduceToNat] at bQ; rw [← dF.out] at bQ)); have br := am (Kd.R_lower bQ (keep_size (w := w) (g := g) (row := none) (ks HK.out))); replace D := bb D hb rfl; replace G := bb G hb rfl; replace y := bb y hb rfl; replace z := ib z hb; replace HK := kb HK hb; replace HB := hs HB hb; clear hb bQ; obtain ⟨gf, gg, gh⟩ := Kd.R_slice br.out; subst gh) | ((with_reducible refine gc 119 rfl ?_); refine gl 78 Try.func119 #[.pointer (some ⟨g, 0, none⟩), .slice gf cD.length gg] ?_; (with_reducible refine (spec_l9Rd_num.calls aF g O aG _ _ cD dG ga w0 _ ?X ?Y ?an ?ao ?ap gb.out).mono ?_); (case X => exact iis z.out); (case Y => exact bs HB.out); (case an => exact cr br); (case ao => exact cc br); (case ap => exact far_slice (IsS126.own_ne z.out br.out (by decide))); rintro e dI ⟨rfl, hi, hb, hk⟩; refine ⟨_, rfl, ?_⟩; replace D := kk D hk; replace G := kk G hk; replace y := kk y hk; replace br := ro br z hk; replace HK := kt HK hk; replace HB := am hb; replace z := am hi; (try clear hi hb hk); have kf := af.out; have kg := ab.out; have kh := ah.out; have ki := ag.out; have kj := ar.out; have km := aq.out; obtain ⟨kn, ko, kr, ku, kv, kw, kx, ky⟩ := bc8 (w := dI) y.out; have kz := blk_frozen y.out; have kA := aB.out; have kB := aA.out; have kC := bz.out; have kD := bk.out; obtain ⟨kE, kF, kG, kH, kI, kJ, kK, kL⟩ := bc8 (w := dI) G.out; have kM := blk_frozen G.out))
    refine bodyPost_ret (results_cell_row rfl _ _ bj 58 #[.int .i64 dG, .int .i64 aE, .int .i64 aQ, .int .i64 aR, .int .i64 aC, .int .i64 aD, .int .i64 aK, .int .i64 aL] (0, 0) _ rfl (bp G.out rfl) Try.underlying58 rfl (by kernel_rfl)) rfl ?_
    exact ⟨eqr, iis z.out, bs HB.out, ks HK.out⟩
   ·rw [if_neg ba] at H
    have f8 : (ae == 0) = false := beq_eq_false_iff_ne.mpr ba
    have f9 : (ae != 0) = true := bne_iff_ne.mpr ba
    by_cases bc : ae = 1
    ·rw [if_pos bc] at H
     have gi : (ae == 1) = true := beq_iff_eq.mpr bc
     have gj : (ae != 1) = false := bne_eq_false_iff_eq.mpr bc
     clear bc
     obtain ⟨cF, cG⟩ : ∃ y_ : List Int, y_ = (([(-1), 41, 5] : List Int)) := ⟨_, rfl⟩
     replace H : ((spec_l9Rd_num.f aF O aG cF).bind fun dJ => (some (I, aE, dJ.1, aR, aC, aD, aK, aL, dJ.2))) = some (r1, r2, r3, r4, r5, r6, r7, r8, r9) := by first | (rw [cG]; exact H) | exact H
     have dK := am cG
     clear cG
     replace H := Option.bind_eq_some_iff.mp H
     obtain ⟨⟨dL, gk⟩, dM, H⟩ := H
     try dsimp -simprocs only at H
     have gm := am dM
     clear dM
     simp only [Option.some.injEq, Prod.mk.injEq] at H
     obtain ⟨rfl, rfl, rfl, rfl, rfl, rfl, rfl, rfl, rfl⟩ := H
     go_wp2_with (first | ((with_reducible refine gc 120 rfl ?_); refine gl 73 Try.func120 #[.pointer (some ⟨g, 0, none⟩), .int .i64 60] ?_; (with_reducible refine (spec_l9Rd_pick.calls aF g O aU 60 ae aG w0 _ ?X ?Y bP.out).mono ?_); (case X => exact iis z.out); (case Y => exact bs HB.out); rintro e kN ⟨rfl, hi, hb, hk⟩; refine ⟨_, rfl, ?_⟩; replace D := kk D hk; replace G := kk G hk; replace y := kk y hk; replace HK := kt HK hk; replace HB := am hb; replace z := am hi; (try clear hi hb hk)) | ((with_reducible refine gd 83 rfl ?_); refine Kd.R_lit (Kd.int .i64) _ 3 ?hg (N := 83) ?hd (xs := ([(-1), 41, 5] : List Int)) (inner := [.int .i64 (-1), .int .i64 41, .int .i64 5]) (ok := fun _ => True) (okp := fun _ => True) ?hr ?hp (fun _ hk => hk) trivial (Below.refl _ _) (Nat.le_refl _) (by simp) ?_; (case hd => rfl); (case hg => rfl); (case hr => first | (go_simp; done) | (go_simp; rfl)); (case hp => exact (Reps.one (show Kd.M (Kd.int .i64) _ _ _ (-1) [.int .i64 (-1)] from rfl) (Reps.one (show Kd.M (Kd.int .i64) _ _ _ 41 [.int .i64 41] from rfl) (Reps.one (show Kd.M (Kd.int .i64) _ _ _ 5 [.int .i64 5] from rfl) (Reps.none _ _))))); intro kO kP bR hb hg_ hnew_; clear hg_ hnew_; (first | rw [← dK.out] at bR | (simp only [Int.reduceToNat] at bR; rw [← dK.out] at bR)); have bt := am (Kd.R_lower bR (keep_size (w := w) (g := g) (row := none) (ks HK.out))); replace D := bb D hb rfl; replace G := bb G hb rfl; replace y := bb y hb rfl; replace z := ib z hb; replace HK := kb HK hb; replace HB := hs HB hb; clear hb bR; obtain ⟨gn, go, gp⟩ := Kd.R_slice bt.out; subst gp) | ((with_reducible refine gc 119 rfl ?_); refine gl 84 Try.func119 #[.pointer (some ⟨g, 0, none⟩), .slice gn cF.length go] ?_; (with_reducible refine (spec_l9Rd_num.calls aF g O aG _ _ cF dL gk w0 _ ?X ?Y ?an ?ao ?ap gm.out).mono ?_); (case X => exact iis z.out); (case Y => exact bs HB.out); (case an => exact cr bt); (case ao => exact cc bt); (case ap => exact far_slice (IsS126.own_ne z.out bt.out (by decide))); rintro e dN ⟨rfl, hi, hb, hk⟩; refine ⟨_, rfl, ?_⟩; replace D := kk D hk; replace G := kk G hk; replace y := kk y hk; replace bt := ro bt z hk; replace HK := kt HK hk; replace HB := am hb; replace z := am hi; (try clear hi hb hk); have kQ := af.out; have kR := ab.out; have kS := ah.out; have kT := ag.out; have kU := ar.out; have kV := aq.out; obtain ⟨kW, kX, kY, kZ, k0, k1, k2, k3⟩ := bc8 (w := dN) y.out; have k4 := blk_frozen y.out; have k5 := aB.out; have k6 := aA.out; have k7 := bz.out; have k8 := bk.out; obtain ⟨k9, lb, lc, ld, le, lf, lg, lh⟩ := bc8 (w := dN) G.out; have li := blk_frozen G.out))
     refine bodyPost_ret (results_cell_row rfl _ _ bj 58 #[.int .i64 I, .int .i64 aE, .int .i64 dL, .int .i64 aR, .int .i64 aC, .int .i64 aD, .int .i64 aK, .int .i64 aL] (0, 0) _ rfl (bp G.out rfl) Try.underlying58 rfl (by kernel_rfl)) rfl ?_
     exact ⟨eqr, iis z.out, bs HB.out, ks HK.out⟩
    ·rw [if_neg bc] at H
     have gi : (ae == 1) = false := beq_eq_false_iff_ne.mpr bc
     have gj : (ae != 1) = true := bne_iff_ne.mpr bc
     by_cases be : ae = 2
     ·rw [if_pos be] at H
      have gq : (ae == 2) = true := beq_iff_eq.mpr be
      have gt : (ae != 2) = false := bne_eq_false_iff_eq.mpr be
      clear be
      obtain ⟨cH, cI⟩ : ∃ y_ : List Int, y_ = (([0, 8, (-1)] : List Int)) := ⟨_, rfl⟩
      replace H : ((spec_l9Rd_num.f aF O aG cH).bind fun dO => (some (I, aE, aQ, dO.1, aC, aD, aK, aL, dO.2))) = some (r1, r2, r3, r4, r5, r6, r7, r8, r9) := by first | (rw [cI]; exact H) | exact H
      have dP := am cI
      clear cI
      replace H := Option.bind_eq_some_iff.mp H
      obtain ⟨⟨dQ, gu⟩, dR, H⟩ := H
      try dsimp -simprocs only at H
      have gv := am dR
      clear dR
      simp only [Option.some.injEq, Prod.mk.injEq] at H
      obtain ⟨rfl, rfl, rfl, rfl, rfl, rfl, rfl, rfl, rfl⟩ := H
      go_wp2_with (first | ((with_reducible refine gc 120 rfl ?_); refine gl 73 Try.func120 #[.pointer (some ⟨g, 0, none⟩), .int .i64 60] ?_; (with_reducible refine (spec_l9Rd_pick.calls aF g O aU 60 ae aG w0 _ ?X ?Y bP.out).mono ?_); (case X => exact iis z.out); (case Y => exact bs HB.out); rintro e lj ⟨rfl, hi, hb, hk⟩; refine ⟨_, rfl, ?_⟩; replace D := kk D hk; replace G := kk G hk; replace y := kk y hk; replace HK := kt HK hk; replace HB := am hb; replace z := am hi; (try clear hi hb hk)) | ((with_reducible refine gd 90 rfl ?_); refine Kd.R_lit (Kd.int .i64) _ 3 ?hg (N := 90) ?hd (xs := ([0, 8, (-1)] : List Int)) (inner := [.int .i64 0, .int .i64 8, .int .i64 (-1)]) (ok := fun _ => True) (okp := fun _ => True) ?hr ?hp (fun _ hk => hk) trivial (Below.refl _ _) (Nat.le_refl _) (by simp) ?_; (case hd => rfl); (case hg => rfl); (case hr => first | (go_simp; done) | (go_simp; rfl)); (case hp => exact (Reps.one (show Kd.M (Kd.int .i64) _ _ _ 0 [.int .i64 0] from rfl) (Reps.one (show Kd.M (Kd.int .i64) _ _ _ 8 [.int .i64 8] from rfl) (Reps.one (show Kd.M (Kd.int .i64) _ _ _ (-1) [.int .i64 (-1)] from rfl) (Reps.none _ _))))); intro lk ll bS hb hg_ hnew_; clear hg_ hnew_; (first | rw [← dP.out] at bS | (simp only [Int.reduceToNat] at bS; rw [← dP.out] at bS)); have bu := am (Kd.R_lower bS (keep_size (w := w) (g := g) (row := none) (ks HK.out))); replace D := bb D hb rfl; replace G := bb G hb rfl; replace y := bb y hb rfl; replace z := ib z hb; replace HK := kb HK hb; replace HB := hs HB hb; clear hb bS; obtain ⟨gw, gx, gy⟩ := Kd.R_slice bu.out; subst gy) | ((with_reducible refine gc 119 rfl ?_); refine gl 91 Try.func119 #[.pointer (some ⟨g, 0, none⟩), .slice gw cH.length gx] ?_; (with_reducible refine (spec_l9Rd_num.calls aF g O aG _ _ cH dQ gu w0 _ ?X ?Y ?an ?ao ?ap gv.out).mono ?_); (case X => exact iis z.out); (case Y => exact bs HB.out); (case an => exact cr bu); (case ao => exact cc bu); (case ap => exact far_slice (IsS126.own_ne z.out bu.out (by decide))); rintro e dS ⟨rfl, hi, hb, hk⟩; refine ⟨_, rfl, ?_⟩; replace D := kk D hk; replace G := kk G hk; replace y := kk y hk; replace bu := ro bu z hk; replace HK := kt HK hk; replace HB := am hb; replace z := am hi; (try clear hi hb hk); have lm := af.out; have ln := ab.out; have lo := ah.out; have lp := ag.out; have lq := ar.out; have lr := aq.out; obtain ⟨ls, lt, lu, lv, lw, lx, ly, lz⟩ := bc8 (w := dS) y.out; have lA := blk_frozen y.out; have lB := aB.out; have lC := aA.out; have lD := bz.out; have lE := bk.out; obtain ⟨lF, lG, lH, lI, lJ, lK, lL, lM⟩ := bc8 (w := dS) G.out; have lN := blk_frozen G.out))
      refine bodyPost_ret (results_cell_row rfl _ _ bj 58 #[.int .i64 I, .int .i64 aE, .int .i64 aQ, .int .i64 dQ, .int .i64 aC, .int .i64 aD, .int .i64 aK, .int .i64 aL] (0, 0) _ rfl (bp G.out rfl) Try.underlying58 rfl (by kernel_rfl)) rfl ?_
      exact ⟨eqr, iis z.out, bs HB.out, ks HK.out⟩
     ·rw [if_neg be] at H
      have gq : (ae == 2) = false := beq_eq_false_iff_ne.mpr be
      have gt : (ae != 2) = true := bne_iff_ne.mpr be
      by_cases bg : ae = 3
      ·rw [if_pos bg] at H
       have gz : (ae == 3) = true := beq_iff_eq.mpr bg
       have gA : (ae != 3) = false := bne_eq_false_iff_eq.mpr bg
       clear bg
       simp only [Option.some.injEq, Prod.mk.injEq] at H
       obtain ⟨rfl, rfl, rfl, rfl, rfl, rfl, rfl, rfl, rfl⟩ := H
       go_wp2_with (first | ((with_reducible refine gc 120 rfl ?_); refine gl 73 Try.func120 #[.pointer (some ⟨g, 0, none⟩), .int .i64 60] ?_; (with_reducible refine (spec_l9Rd_pick.calls aF g O aU 60 ae aG w0 _ ?X ?Y bP.out).mono ?_); (case X => exact iis z.out); (case Y => exact bs HB.out); rintro e dT ⟨rfl, hi, hb, hk⟩; refine ⟨_, rfl, ?_⟩; replace D := kk D hk; replace G := kk G hk; replace y := kk y hk; replace HK := kt HK hk; replace HB := am hb; replace z := am hi; (try clear hi hb hk); have lO := af.out; have lP := ab.out; have lQ := ah.out; have lR := ag.out; have lS := ar.out; have lT := aq.out; obtain ⟨lU, lV, lW, lX, lY, lZ, l0, l1⟩ := bc8 (w := dT) y.out; have l2 := blk_frozen y.out; have l3 := aB.out; have l4 := aA.out; have l5 := bz.out; have l6 := bk.out; obtain ⟨l7, l8, l9, ma, mb, mc, me, mf⟩ := bc8 (w := dT) G.out; have mg := blk_frozen G.out))
       refine bodyPost_ret (results_cell_row rfl _ _ bj 58 #[.int .i64 I, .int .i64 aE, .int .i64 aQ, .int .i64 aR, .int .i64 aC, .int .i64 aD, .int .i64 aC, .int .i64 aD] (0, 0) _ rfl (bp G.out rfl) Try.underlying58 rfl (by kernel_rfl)) rfl ?_
       exact ⟨eqr, iis z.out, bs HB.out, ks HK.out⟩
      ·rw [if_neg bg] at H
       have gz : (ae == 3) = false := beq_eq_false_iff_ne.mpr bg
       have gA : (ae != 3) = true := bne_iff_ne.mpr bg
       simp only [Option.some.injEq, Prod.mk.injEq] at H
       obtain ⟨rfl, rfl, rfl, rfl, rfl, rfl, rfl, rfl, rfl⟩ := H
       go_wp2_with (first | ((with_reducible refine gc 120 rfl ?_); refine gl 73 Try.func120 #[.pointer (some ⟨g, 0, none⟩), .int .i64 60] ?_; (with_reducible refine (spec_l9Rd_pick.calls aF g O aU 60 ae aG w0 _ ?X ?Y bP.out).mono ?_); (case X => exact iis z.out); (case Y => exact bs HB.out); rintro e dU ⟨rfl, hi, hb, hk⟩; refine ⟨_, rfl, ?_⟩; replace D := kk D hk; replace G := kk G hk; replace y := kk y hk; replace HK := kt HK hk; replace HB := am hb; replace z := am hi; (try clear hi hb hk); have mh := af.out; have mi := ab.out; have mj := ah.out; have ml := ag.out; have mm := ar.out; have mn := aq.out; obtain ⟨mo, mq, mr, ms, mt, mu, mv, mw⟩ := bc8 (w := dU) y.out; have mx := blk_frozen y.out; have my := aB.out; have mz := aA.out; have mA := bz.out; have mB := bk.out; obtain ⟨mC, mD, mE, mF, mG, mH, mI, mJ⟩ := bc8 (w := dU) G.out; have mK := blk_frozen G.out))
       refine bodyPost_ret (results_cell_row rfl _ _ bj 58 #[.int .i64 I, .int .i64 aE, .int .i64 aQ, .int .i64 aR, .int .i64 aC, .int .i64 aD, .int .i64 aK, .int .i64 aL] (0, 0) _ rfl (bp G.out rfl) Try.underlying58 rfl (by kernel_rfl)) rfl ?_
       exact ⟨eqr, iis z.out, bs HB.out, ks HK.out⟩

end Go.Proofs.Ytohmemckdogljaa.QFnGraphBent
