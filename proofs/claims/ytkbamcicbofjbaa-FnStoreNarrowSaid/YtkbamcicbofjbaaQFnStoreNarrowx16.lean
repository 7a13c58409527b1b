/- Contracts of the Go functions that this law reaches: each does what its plain Lean function says. No condition. -/
import Derived.Test.YtkbamcicbofjbaaQFnStoreNarrowx0
import Derived.Test.YtkbamcicbofjbaaQFnStoreNarrowx4
import Derived.Test.YtkbamcicbofjbaaQFnStoreNarrowx9
import Derived.Test.YtkbamcicbofjbaaQFnStoreNarrowx14
import Derived.Test.YtkbamcicbofjbaaQFnStoreNarrowx15
namespace Go.Proofs.Ytkbamcicbofjbaa.QFnStoreNarrow
open Go.RowKit Go.Proofs.YtkbamcicbofjbaaW.PrintWords Go.Proofs.YtkbamcicbofjbaaW.PrintLast Go.Proofs.YtkbamcicbofjbaaW.PrintMore Go.Proofs.Ytkbamcicbofjbaa.Bl
attribute [local go_sem] max2_int min2_int max_two min_two max_three min_three max_four min_four   -- for this text's walks alone
set_option linter.unusedVariables false
set_option linter.unusedSimpArgs false
set_option maxHeartbeats 8000000
set_option maxRecDepth 100000

/-! ### spec_l2Op: function 23 -/
def spec_l2Op.j0 : Nat → List Int → Int → Int → Int → Int → Int → Int → Int → Int → Int → Option (Int × Int × Int × Int × Int × Int × Int × Int × Int)
 | 0, _, _, _, _, _, _, _, _, _, _ => none
 | k + 1, G, aa, I, D, J, L, y, z, O, T => (spec_l9Rd_pick.f k G aa 60).bind fun s => (if s.1 = 0 then ((spec_l9Rd_num.f k G s.2 (([0, 5, (-1), 2] : List Int))).bind fun X => (some (X.1, D, J, L, y, z, O, T, X.2))) else (if s.1 = 1 then ((spec_l9Rd_num.f k G s.2 (([(-1), 41, 5] : List Int))).bind fun Y => (some (I, D, Y.1, L, y, z, O, T, Y.2))) else (if s.1 = 2 then ((spec_l9Rd_num.f k G s.2 (([0, 8, (-1)] : List Int))).bind fun Z => (some (I, D, J, Z.1, y, z, O, T, Z.2))) else (if s.1 = 3 then (some (I, D, J, L, y, z, y, z, s.2)) else (some (I, D, J, L, y, z, O, T, s.2))))))
def spec_l2Op.f (k : Nat) (s : List Int) (Z : Int) (I : List (S55)) (D : List (S57)) : Option (Int × Int × Int × Int × Int × Int × Int × Int × Int) := (spec_l9Rd_num.f k s Z (([1, 2, 2, 1, 2, 3, 4, 2] : List Int))).bind fun y => (if y.1 = 1 then ((spec_l2Node.f k s y.2).bind fun T => (spec_l2Op.j0 k s T.2.2 y.1 T.1 T.2.1 0 0 0 0 0)) else (if y.1 = 2 then ((spec_l2Edge.f k s y.2 I D).bind fun J => (spec_l2Op.j0 k s J.2.2.2.2.2 y.1 0 0 J.1 J.2.1 J.2.2.1 J.2.2.2.1 J.2.2.2.2.1)) else (if y.1 = 3 then ((spec_l2Edge.f k s y.2 I D).bind fun z => (if (D.length : Int) > 0 then ((spec_l9Rd_pick.f k s z.2.2.2.2.2 4).bind fun X => (if X.1 > 0 then ((spec_l9Rd_pick.f k s X.2 (D.length : Int)).bind fun G => (if 0 ≤ G.1 then (if G.1 < (D.length : Int) then (spec_l2Op.j0 k s G.2 y.1 0 0 ((rd_T57 D G.1).f0) ((rd_T57 D G.1).f1.f0) ((rd_T57 D G.1).f1.f1) ((rd_T57 D G.1).f2.f0) ((rd_T57 D G.1).f2.f1)) else (none)) else (none))) else (spec_l2Op.j0 k s X.2 y.1 0 0 z.1 z.2.1 z.2.2.1 z.2.2.2.1 z.2.2.2.2.1))) else (spec_l2Op.j0 k s z.2.2.2.2.2 y.1 0 0 z.1 z.2.1 z.2.2.1 z.2.2.2.1 z.2.2.2.2.1))) else (if y.1 = 4 then ((spec_l2Node.f k s y.2).bind fun L => (if (I.length : Int) > 0 then ((spec_l9Rd_pick.f k s L.2.2 2).bind fun Y => (if Y.1 > 0 then ((spec_l9Rd_pick.f k s Y.2 (I.length : Int)).bind fun O => (if 0 ≤ O.1 then (if O.1 < (I.length : Int) then (spec_l2Op.j0 k s O.2 y.1 ((rd_T55 I O.1).f0) ((rd_T55 I O.1).f1) 0 0 0 0 0) else (none)) else (none))) else (spec_l2Op.j0 k s Y.2 y.1 L.1 L.2.1 0 0 0 0 0))) else (spec_l2Op.j0 k s L.2.2 y.1 L.1 L.2.1 0 0 0 0 0))) else (spec_l2Op.j0 k s y.2 y.1 0 0 0 0 0 0 0)))))
def spec_l2Op.T10 : Bool × List (List Nat × List Nat) := (true, [([], []), ([0], [0]), ([], []), ([], []), ([3], [3]), ([4], [4]), ([2, 5], [2, 5]), ([1, 6], [1, 6]), ([7], [7]), ([0, 1, 2, 3, 4, 5, 6, 7, 8], []), ([9, 8, 6, 0, 1, 2, 3, 4, 5, 6, 7, 8], [8, 9])])
def spec_l2Op.B10 : List Nat := [0, 1, 0, 0, 8, 24, 60, 127, 255, 511, 1023]
theorem spec_l2Op.tab10 : rtab .any (opsOf Try.f23 10) = spec_l2Op.T10 := by kernel_rfl
theorem spec_l2Op.bits10 : waitsOk spec_l2Op.T10.2 spec_l2Op.B10 = true := by kernel_rfl
def spec_l2Op.T14 : Bool × List (List Nat × List Nat) := (true, [([], []), ([0], [0]), ([], []), ([], []), ([3], [3]), ([4], [4]), ([2, 5], [2, 5]), ([1, 6], [1, 6]), ([7], [7]), ([0, 1, 2, 3, 4, 5, 6, 7, 8], []), ([9, 8, 6, 0, 1, 2, 3, 4, 5, 6, 7, 8], [8, 9])])
def spec_l2Op.B14 : List Nat := [0, 1, 0, 0, 8, 24, 60, 127, 255, 511, 1023]
theorem spec_l2Op.tab14 : rtab .any (opsOf Try.f23 14) = spec_l2Op.T14 := by kernel_rfl
theorem spec_l2Op.bits14 : waitsOk spec_l2Op.T14.2 spec_l2Op.B14 = true := by kernel_rfl
theorem spec_l2Op.calls (k : Nat) (g : Nat) (O : List Int) (bT : Int) (aO : Option Addr) (aH : Nat) (aa : List (S55)) (aP : Option Addr) (aI : Nat) (J : List (S57)) (r1 : Int) (r2 : Int) (r3 : Int) (r4 : Int) (r5 : Int) (r6 : Int) (r7 : Int) (r8 : Int) (r9 : Int) (w0 w : World) (hI : IsS46 w0 w g O bT) (hB : Below w0.heap.size w0 w) (cJ : ∀ W_, KeepBut w W_ g none → Kd.C k55 W_ aO aa.length aa) (cK : aa.length ≤ aH) (cL : ∀ W_, KeepBut w W_ g none → Kd.C k57 W_ aP J.length J) (cM : J.length ≤ aI) (h : spec_l2Op.f k O bT aa J = some (r1, r2, r3, r4, r5, r6, r7, r8, r9)) :
  Calls Try.prog 23 #[.pointer (some ⟨g, 0, none⟩), .agg #[.slice aO aa.length aH, .slice aP J.length aI]] w fun e w' => e = .returned (.agg #[.int .i64 r1, .int .i64 r2, .int .i64 r3, .int .i64 r4, .int .i64 r5, .int .i64 r6, .int .i64 r7, .int .i64 r8]) ∧ IsS46 w0 w' g O r9 ∧ Below w0.heap.size w0 w' ∧ KeepBut w w' g none := by
 have hu38 := Try.underlying38
 have hu59 := Try.underlying59
 have hu55 := Try.underlying55
 have hu57 := Try.underlying57
 have al := am cJ
 have bU := am cK
 clear cJ cK
 have ac := am cL
 have bV := am cM
 clear cL cM
 have z := am hI
 have GEg_ : Ge w0 g := ⟨IsS46.ge z.out⟩
 have HK := am (KeepBut.refl w g none)
 have HL := am hB.size
 clear hI
 have ce := am hB.size
 have HB := am hB
 clear hB
 have H := h; unfold spec_l2Op.f at H
 clear h
 obtain ⟨cf, cg⟩ : ∃ y_ : List Int, y_ = (([1, 2, 2, 1, 2, 3, 4, 2] : List Int)) := ⟨_, rfl⟩
 replace H : ((spec_l9Rd_num.f k O bT cf).bind fun ak => (if ak.1 = 1 then ((spec_l2Node.f k O ak.2).bind fun ch => (spec_l2Op.j0 k O ch.2.2 ak.1 ch.1 ch.2.1 0 0 0 0 0)) else (if ak.1 = 2 then ((spec_l2Edge.f k O ak.2 aa J).bind fun bh => (spec_l2Op.j0 k O bh.2.2.2.2.2 ak.1 0 0 bh.1 bh.2.1 bh.2.2.1 bh.2.2.2.1 bh.2.2.2.2.1)) else (if ak.1 = 3 then ((spec_l2Edge.f k O ak.2 aa J).bind fun az => (if (J.length : Int) > 0 then ((spec_l9Rd_pick.f k O az.2.2.2.2.2 4).bind fun ci => (if ci.1 > 0 then ((spec_l9Rd_pick.f k O ci.2 (J.length : Int)).bind fun aS => (if 0 ≤ aS.1 then (if aS.1 < (J.length : Int) then (spec_l2Op.j0 k O aS.2 ak.1 0 0 ((rd_T57 J aS.1).f0) ((rd_T57 J aS.1).f1.f0) ((rd_T57 J aS.1).f1.f1) ((rd_T57 J aS.1).f2.f0) ((rd_T57 J aS.1).f2.f1)) else (none)) else (none))) else (spec_l2Op.j0 k O ci.2 ak.1 0 0 az.1 az.2.1 az.2.2.1 az.2.2.2.1 az.2.2.2.2.1))) else (spec_l2Op.j0 k O az.2.2.2.2.2 ak.1 0 0 az.1 az.2.1 az.2.2.1 az.2.2.2.1 az.2.2.2.2.1))) else (if ak.1 = 4 then ((spec_l2Node.f k O ak.2).bind fun bi => (if (aa.length : Int) > 0 then ((spec_l9Rd_pick.f k O bi.2.2 2).bind fun cj => (if cj.1 > 0 then ((spec_l9Rd_pick.f k O cj.2 (aa.length : Int)).bind fun bv => (if 0 ≤ bv.1 then (if bv.1 < (aa.length : Int) then (spec_l2Op.j0 k O bv.2 ak.1 ((rd_T55 aa bv.1).f0) ((rd_T55 aa bv.1).f1) 0 0 0 0 0) else (none)) else (none))) else (spec_l2Op.j0 k O cj.2 ak.1 bi.1 bi.2.1 0 0 0 0 0))) else (spec_l2Op.j0 k O bi.2.2 ak.1 bi.1 bi.2.1 0 0 0 0 0))) else (spec_l2Op.j0 k O ak.2 ak.1 0 0 0 0 0 0 0)))))) = some (r1, r2, r3, r4, r5, r6, r7, r8, r9) := by first | (rw [cg]; exact H) | exact H
 have cN := am cg
 clear cg
 replace H := Option.bind_eq_some_iff.mp H
 obtain ⟨⟨I, aJ⟩, cO, H⟩ := H
 try dsimp -simprocs only at H
 have A3 := am cO
 clear cO
 have ck := am H
 clear H
 go_enter Try.func23, Try.ntmps23
 go_upto_block 0 with (first | ((with_reducible refine gd 3 rfl ?_); refine bx 3 (cs := #[.slice aO aa.length aH, .slice aP J.length aI]) (t := 38) ?_; intro bw hg w5 hbox hb; replace HB := hs HB hb; have D := am hbox; have dV := gwk HK hg; have gC := gew ce dV; replace HK := kb HK hb; have aT := nlt z hg; have aZ := nsy aT; replace z := ib z hb; clear hb hbox hg) | ((with_reducible refine gd 4 rfl ?_); refine bx 4 (cs := #[.int .i64 0, .int .i64 0, .int .i64 0, .int .i64 0, .int .i64 0, .int .i64 0, .int .i64 0, .int .i64 0]) (t := 59) ?_; intro bj hg w6 hbox hb; replace HB := hs HB hb; have G := am hbox; have dW := gwk HK hg; have gD := gew ce dW; replace HK := kb HK hb; have aA := nq D hg; have aB := nq' D hg; replace D := bb D hb rfl; have bk := nlt z hg; have bz := nsy bk; replace z := ib z hb; clear hb hbox hg) | ((with_reducible refine gd 7 rfl ?_); refine rli (k := .i64) 3 7 ([1, 2, 2, 1, 2, 3, 4, 2] : List Int) ?_; intro gE w7 bA hb hg_ hnew_; clear hg_ hnew_; (first | rw [← cN.out] at bA | (simp only [Int.reduceToNat] at bA; rw [← cN.out] at bA)); have Z := am (Kd.R_lower bA (keep_size (w := w) (g := g) (row := none) (ks HK.out))); replace z := ib z hb; replace D := bb D hb rfl; replace G := bb G hb rfl; replace HK := kb HK hb; replace HB := hs HB hb; clear hb bA; obtain ⟨dX, dY, dZ⟩ := Kd.R_slice Z.out; subst dZ) | ((with_reducible refine gc 19 rfl ?_); refine gl 8 Try.func19 #[.pointer (some ⟨g, 0, none⟩), .slice dX cf.length dY] ?_; (with_reducible refine (spec_l9Rd_num.calls k g O bT _ _ cf I aJ w0 _ ?X ?Y ?an ?ao ?ap A3.out).mono ?_); (case X => exact iis z.out); (case Y => exact bs HB.out); (case an => exact cr Z); (case ao => exact cc Z); (case ap => exact far_slice (IsS46.own_ne z.out Z.out (by decide))); rintro e gF ⟨rfl, hi, hb, hk⟩; refine ⟨_, rfl, ?_⟩; replace D := kk D hk; replace G := kk G hk; replace Z := ro Z z hk; replace HK := kt HK hk; replace HB := am hb; replace z := am hi; (try clear hi hb hk)) | ((with_reducible refine gd 5 rfl ?_); refine bx 5 (cs := #[.int .i64 0, .int .i64 0, .int .i64 0, .int .i64 0, .int .i64 0, .int .i64 0, .int .i64 0, .int .i64 0]) (t := 59) ?_; intro L hg bB hbox hb; replace Z := rb Z hb; replace HB := hs HB hb; have y := am hbox; have ad := gwk HK hg; have gG := gew ce ad; replace HK := kb HK hb; have ab := nq D hg; have af := nq' D hg; replace D := bb D hb rfl; have ag := nq G hg; have ah := nq' G hg; replace G := bb G hb rfl; have aq := nlt z hg; have ar := nsy aq; replace z := ib z hb; clear hb hbox hg; have gH := af.out; have gI := ab.out; have gJ := ah.out; have gK := ag.out; have gL := ar.out; have gM := aq.out; obtain ⟨d0, d1, d2, d3, d4, d5, d6, d7⟩ := bc8 (w := bB) y.out; have d8 := blk_frozen y.out))
 (try simp only [Act.put, List.setIfInBounds_toArray, List.set_cons_zero, List.set_cons_succ])
 go_cut [] (fun wc => ∃ (kq : Nat) (aU : Int) (aE : Int) (aQ : Int) (aR : Int) (aC : Int) (aD : Int) (aK : Int) (aL : Int), Aside0 (spec_l2Op.j0 kq O aU I aE aQ aR aC aD aK aL = some (r1, r2, r3, r4, r5, r6, r7, r8, r9)) ∧ Aside0 (kq ≤ k) ∧ Aside0 (wc.heap[bw]? = some (.cells #[(.slice aO aa.length aH), (.slice aP J.length aI)] 38 (0, 0))) ∧ Aside0 (wc.heap[bj]? = some (.cells #[.int .i64 0, .int .i64 0, .int .i64 0, .int .i64 0, .int .i64 0, .int .i64 0, .int .i64 0, .int .i64 0] 59 (0, 0))) ∧ Aside0 (wc.heap[L]? = some (.cells #[.int .i64 I, .int .i64 aE, .int .i64 aQ, .int .i64 aR, .int .i64 aC, .int .i64 aD, .int .i64 aK, .int .i64 aL] 59 (0, 0))) ∧ Aside0 (IsS46 w0 wc g O aU) ∧ Aside0 (KeepBut w wc g none) ∧ Aside0 (Below w0.heap.size w0 wc))
 case first =>
  have H := ck.out
  clear ck
  by_cases aV : I = 1
  ·rw [if_pos aV] at H
   have bl : (I == 1) = true := beq_iff_eq.mpr aV
   have cP : (I != 1) = false := bne_eq_false_iff_eq.mpr aV
   clear aV
   (first | rw [bl] | (simp only [i64_w, i32_w]; rw [bl]) | skip)
   replace H := Option.bind_eq_some_iff.mp H
   obtain ⟨⟨cl, cQ, cR⟩, cS, H⟩ := H
   try dsimp -simprocs only at H
   have d9 := am cS
   clear cS
   have H' := am H
   clear H
   go_wp2_with (first | ((with_reducible refine gc 40 rfl ?_); refine gl 15 Try.func40 #[.pointer (some ⟨g, 0, none⟩)] ?_; (with_reducible refine (spec_l2Node.calls k g O aJ cl cQ cR w0 _ ?X ?Y d9.out).mono ?_); (case X => exact iis z.out); (case Y => exact bs HB.out); rintro e ea ⟨rfl, hi, hb, hk⟩; refine ⟨_, rfl, ?_⟩; replace D := kk D hk; replace G := kk G hk; replace Z := rp Z y z hk; replace y := kp #[.int .i64 I, .int .i64 0, .int .i64 0, .int .i64 0, .int .i64 0, .int .i64 0, .int .i64 0, .int .i64 0] y hk; replace HK := kt HK hk; replace HB := am hb; replace z := am hi; (try clear hi hb hk); have gN := af.out; have gO := ab.out; have gP := ah.out; have gQ := ag.out; have gR := ar.out; have gS := aq.out; obtain ⟨eb, ec, ed, ee, ef, eg, eh, ei⟩ := bc8 (w := ea) y.out; have ej := blk_frozen y.out))
   go_meet
   case rel => exact ⟨_, (cR), (cl), (cQ), (0), (0), (0), (0), (0), H', ⟨by first | omega | exact Nat.le_refl _⟩, ⟨bf D.out⟩, ⟨bf G.out⟩, ⟨by (with_reducible repeat (first | refine blk_drewN ?_ _ | refine blk_drew ?_ | refine blk_alloc ?_ _)); refine blk_put (cs := #[.int .i64 I, .int .i64 cl, .int .i64 0, .int .i64 0, .int .i64 0, .int .i64 0, .int .i64 0, .int .i64 0]) ?_ 2 _ rfl; (with_reducible repeat (first | refine blk_drewN ?_ _ | refine blk_drew ?_ | refine blk_alloc ?_ _)); refine blk_put (cs := #[.int .i64 I, .int .i64 0, .int .i64 0, .int .i64 0, .int .i64 0, .int .i64 0, .int .i64 0, .int .i64 0]) ?_ 1 _ rfl; exact bf y.out⟩, ⟨iis z.out⟩, ⟨ks HK.out⟩, ⟨bs HB.out⟩⟩
  ·rw [if_neg aV] at H
   have bl : (I == 1) = false := beq_eq_false_iff_ne.mpr aV
   have cP : (I != 1) = true := bne_iff_ne.mpr aV
   (first | rw [bl] | (simp only [i64_w, i32_w]; rw [bl]) | skip)
   by_cases aW : I = 2
   ·rw [if_pos aW] at H
    have cT : (I == 2) = true := beq_iff_eq.mpr aW
    have cU : (I != 2) = false := bne_eq_false_iff_eq.mpr aW
    clear aW
    replace H := Option.bind_eq_some_iff.mp H
    obtain ⟨⟨bm, bC, bW, cm, cV, cW⟩, cX, H⟩ := H
    try dsimp -simprocs only at H
    have ek := am cX
    clear cX
    have H' := am H
    clear H
    have gT := aA.out
    have gU := aB.out
    have gV := ab.out
    have gW := af.out
    have gX := aZ.out
    have gY := aT.out
    obtain ⟨el, em⟩ := bc2 (w := bB) D.out
    have en := blk_frozen D.out
    go_wp2_with (first | ((with_reducible refine gc 41 rfl ?_); refine gl 21 Try.func41 #[.pointer (some ⟨g, 0, none⟩), .agg #[.slice aO aa.length aH, .slice aP J.length aI]] ?_; (with_reducible refine (spec_l2Edge.calls k g O aJ _ _ aa _ _ J bm bC bW cm cV cW w0 _ ?X ?Y ?an ?ao ?ap ?a4 ek.out).mono ?_); (case X => exact iis z.out); (case Y => exact bs HB.out); (case an => exact Kd.C_foot_step al.out (ks HK.out)); (case ao => exact bU.out); (case ap => exact Kd.C_foot_step ac.out (ks HK.out)); (case a4 => exact bV.out); rintro e eo ⟨rfl, hi, hb, hk⟩; refine ⟨_, rfl, ?_⟩; replace D := kk D hk; replace G := kk G hk; replace Z := rp Z y z hk; replace y := kp #[.int .i64 I, .int .i64 0, .int .i64 0, .int .i64 0, .int .i64 0, .int .i64 0, .int .i64 0, .int .i64 0] y hk; replace HK := kt HK hk; replace HB := am hb; replace z := am hi; (try clear hi hb hk); have gZ := ah.out; have g0 := ag.out; have g1 := ar.out; have g2 := aq.out; obtain ⟨ep, eq, er, es, et, eu, ev, ew⟩ := bc8 (w := eo) y.out; have ex := blk_frozen y.out))
    go_meet
    case rel => exact ⟨_, (cW), (0), (0), (bm), (bC), (bW), (cm), (cV), H', ⟨by first | omega | exact Nat.le_refl _⟩, ⟨bf D.out⟩, ⟨bf G.out⟩, ⟨by (with_reducible repeat (first | refine blk_drewN ?_ _ | refine blk_drew ?_ | refine blk_alloc ?_ _)); refine blk_put (cs := #[.int .i64 I, .int .i64 0, .int .i64 0, .int .i64 bm, .int .i64 bC, .int .i64 bW, .int .i64 cm, .int .i64 0]) ?_ 7 _ rfl; (with_reducible repeat (first | refine blk_drewN ?_ _ | refine blk_drew ?_ | refine blk_alloc ?_ _)); refine blk_put (cs := #[.int .i64 I, .int .i64 0, .int .i64 0, .int .i64 bm, .int .i64 bC, .int .i64 bW, .int .i64 0, .int .i64 0]) ?_ 6 _ rfl; (with_reducible repeat (first | refine blk_drewN ?_ _ | refine blk_drew ?_ | refine blk_alloc ?_ _)); refine blk_put (cs := #[.int .i64 I, .int .i64 0, .int .i64 0, .int .i64 bm, .int .i64 bC, .int .i64 0, .int .i64 0, .int .i64 0]) ?_ 5 _ rfl; (with_reducible repeat (first | refine blk_drewN ?_ _ | refine blk_drew ?_ | refine blk_alloc ?_ _)); refine blk_put (cs := #[.int .i64 I, .int .i64 0, .int .i64 0, .int .i64 bm, .int .i64 0, .int .i64 0, .int .i64 0, .int .i64 0]) ?_ 4 _ rfl; (with_reducible repeat (first | refine blk_drewN ?_ _ | refine blk_drew ?_ | refine blk_alloc ?_ _)); refine blk_put (cs := #[.int .i64 I, .int .i64 0, .int .i64 0, .int .i64 0, .int .i64 0, .int .i64 0, .int .i64 0, .int .i64 0]) ?_ 3 _ rfl; exact bf y.out⟩, ⟨iis z.out⟩, ⟨ks HK.out⟩, ⟨bs HB.out⟩⟩
   ·rw [if_neg aW] at H
    have cT : (I == 2) = false := beq_eq_false_iff_ne.mpr aW
    have cU : (I != 2) = true := bne_iff_ne.mpr aW
    by_cases aX : I = 3
    ·rw [if_pos aX] at H
     have cY : (I == 3) = true := beq_iff_eq.mpr aX
     have cZ : (I != 3) = false := bne_eq_false_iff_eq.mpr aX
     clear aX
     replace H := Option.bind_eq_some_iff.mp H
     obtain ⟨⟨au, av, aw, ax, ay, bn⟩, c0, H⟩ := H
     try dsimp -simprocs only at H
     have cn := am c0
     clear c0
     by_cases a5 : (J.length : Int) > 0
     ·rw [if_pos a5] at H
      have da : decide (0 < (J.length : Int)) = true := decide_eq_true a5
      have db : decide (0 < J.length) = true := decide_eq_true (by omega)
      clear a5
      replace H := Option.bind_eq_some_iff.mp H
      obtain ⟨⟨bD, bX⟩, dc, H⟩ := H
      try dsimp -simprocs only at H
      have dd := am dc
      clear dc
      by_cases a6 : bD > 0
      ·rw [if_pos a6] at H
       have de : decide (0 < bD) = true := decide_eq_true a6
       clear a6
       replace H := Option.bind_eq_some_iff.mp H
       obtain ⟨⟨T, df⟩, dg, H⟩ := H
       try dsimp -simprocs only at H
       have ey := am dg
       clear dg
       by_cases bE : 0 ≤ T
       ·rw [if_pos bE] at H
        have ez : decide (0 ≤ T) = true := decide_eq_true bE
        clear bE
        by_cases bF : T < (J.length : Int)
        ·rw [if_pos bF] at H
         have eA : decide (T < (J.length : Int)) = true := decide_eq_true bF
         clear bF
         have H' := am H
         clear H
         have g3 := aA.out
         have g4 := aB.out
         have g5 := ab.out
         have g6 := af.out
         have g7 := aZ.out
         have g8 := aT.out
         obtain ⟨eB, eC⟩ := bc2 (w := bB) D.out
         have eD := blk_frozen D.out
         try go_wp2_with (first | ((with_reducible refine gc 41 rfl ?_); refine gl 27 Try.func41 #[.pointer (some ⟨g, 0, none⟩), .agg #[.slice aO aa.length aH, .slice aP J.length aI]] ?_; (with_reducible refine (spec_l2Edge.calls k g O aJ _ _ aa _ _ J au av aw ax ay bn w0 _ ?X ?Y ?an ?ao ?ap ?a4 cn.out).mono ?_); (case X => exact iis z.out); (case Y => exact bs HB.out); (case an => exact Kd.C_foot_step al.out (ks HK.out)); (case ao => exact bU.out); (case ap => exact Kd.C_foot_step ac.out (ks HK.out)); (case a4 => exact bV.out); rintro e dh ⟨rfl, hi, hb, hk⟩; refine ⟨_, rfl, ?_⟩; replace D := kk D hk; replace G := kk G hk; replace Z := rp Z y z hk; replace y := kp #[.int .i64 I, .int .i64 0, .int .i64 0, .int .i64 0, .int .i64 0, .int .i64 0, .int .i64 0, .int .i64 0] y hk; replace HK := kt HK hk; replace HB := am hb; replace z := am hi; (try clear hi hb hk); have g9 := ah.out; have hh := ag.out; have hj := ar.out; have ho := aq.out; obtain ⟨eE, eF, eG, eH, eI, eJ, eK, eL⟩ := bc8 (w := dh) y.out; have eM := blk_frozen y.out; obtain ⟨eN, eO⟩ := bc2 (w := dh) D.out; have eP := blk_frozen D.out) | (go_at_call 18; (with_reducible refine (spec_l9Rd_pick.calls k g O bn 4 bD bX w0 _ ?X ?Y dd.out).mono ?_); (case X => exact iis z.out); (case Y => exact bs HB.out); rintro e eQ ⟨rfl, hi, hb, hk⟩; replace D := kk D hk; replace G := kk G hk; replace Z := rp Z y z hk; replace y := kp #[.int .i64 I, .int .i64 0, .int .i64 0, .int .i64 au, .int .i64 av, .int .i64 aw, .int .i64 ax, .int .i64 ay] y hk; replace HK := kt HK hk; replace HB := am hb; replace z := am hi; (try clear hi hb hk)))
         replace Z := rd_ Z
         replace D := bd D
         replace G := bd G
         replace y := bd y
         replace z := am (IsS46.drew z.out)
         replace HK := am (keep_drew HK.out)
         replace HB := hd HB
         have bY : 0 ≤ (T : Int) := oda
         have bZ : T < (J.length : Int) := oda
         obtain ⟨ai, eR, b0, b1, b2, b3, b4⟩ := at_T57 (Kd.C_foot_now ac.out HK.out) T bY bZ
         have hu := b4
         have hv := b3
         have hx := b2
         have hy := b1
         have hz := b0
         cases eR
         have co := (show (⟨(ai.add ((T).toNat * 5)).block, (ai.add ((T).toNat * 5)).off + 4, none⟩ : Addr).block ≠ g from by first | (rw [add_block]; exact Kd.foot_ne ac.out (by omega) (by decide)) | (show (Addr.add _ _).block ≠ _; rw [add_block]; exact Kd.foot_ne ac.out (by omega) (by decide)) | exact Kd.foot_ne ac.out (by omega) (by decide) | (dsimp only; exact Kd.foot_ne ac.out (by omega) (by decide)))
         have bG := (Kd.foot_lt ac.out (by omega) (by decide))
         have cp := (show (⟨(ai.add ((T).toNat * 5)).block, (ai.add ((T).toNat * 5)).off + 3, none⟩ : Addr).block ≠ g from by first | (rw [add_block]; exact Kd.foot_ne ac.out (by omega) (by decide)) | (show (Addr.add _ _).block ≠ _; rw [add_block]; exact Kd.foot_ne ac.out (by omega) (by decide)) | exact Kd.foot_ne ac.out (by omega) (by decide) | (dsimp only; exact Kd.foot_ne ac.out (by omega) (by decide)))
         have bH := (Kd.foot_lt ac.out (by omega) (by decide))
         have ct := (show (⟨(ai.add ((T).toNat * 5)).block, (ai.add ((T).toNat * 5)).off + 2, none⟩ : Addr).block ≠ g from by first | (rw [add_block]; exact Kd.foot_ne ac.out (by omega) (by decide)) | (show (Addr.add _ _).block ≠ _; rw [add_block]; exact Kd.foot_ne ac.out (by omega) (by decide)) | exact Kd.foot_ne ac.out (by omega) (by decide) | (dsimp only; exact Kd.foot_ne ac.out (by omega) (by decide)))
         have bI := (Kd.foot_lt ac.out (by omega) (by decide))
         have cu := (show (⟨(ai.add ((T).toNat * 5)).block, (ai.add ((T).toNat * 5)).off + 1, none⟩ : Addr).block ≠ g from by first | (rw [add_block]; exact Kd.foot_ne ac.out (by omega) (by decide)) | (show (Addr.add _ _).block ≠ _; rw [add_block]; exact Kd.foot_ne ac.out (by omega) (by decide)) | exact Kd.foot_ne ac.out (by omega) (by decide) | (dsimp only; exact Kd.foot_ne ac.out (by omega) (by decide)))
         have bJ := (Kd.foot_lt ac.out (by omega) (by decide))
         have cv := (show ((ai.add ((T).toNat * 5)) : Addr).block ≠ g from by first | (rw [add_block]; exact Kd.foot_ne ac.out (by omega) (by decide)) | (show (Addr.add _ _).block ≠ _; rw [add_block]; exact Kd.foot_ne ac.out (by omega) (by decide)) | exact Kd.foot_ne ac.out (by omega) (by decide) | (dsimp only; exact Kd.foot_ne ac.out (by omega) (by decide)))
         have bK := (Kd.foot_lt ac.out (by omega) (by decide))
         replace bY := eq_true bY
         replace bZ := eq_true bZ
         refine sta 11 (fun w' => w'.cell? ⟨bw, 0, none⟩ = some (.slice aO aa.length aH) ∧ w'.cell? ⟨bw, 1, none⟩ = some (.slice (some ai) J.length aI) ∧ w'.cell? (ai.add ((T).toNat * 5)) = some (.int .i64 ((rd_T57 J T).f0)) ∧ w'.cell? ⟨(ai.add ((T).toNat * 5)).block, (ai.add ((T).toNat * 5)).off + 1, none⟩ = some (.int .i64 ((rd_T57 J T).f1.f0)) ∧ w'.cell? ⟨(ai.add ((T).toNat * 5)).block, (ai.add ((T).toNat * 5)).off + 2, none⟩ = some (.int .i64 ((rd_T57 J T).f1.f1)) ∧ w'.cell? ⟨(ai.add ((T).toNat * 5)).block, (ai.add ((T).toNat * 5)).off + 3, none⟩ = some (.int .i64 ((rd_T57 J T).f2.f0)) ∧ w'.cell? ⟨(ai.add ((T).toNat * 5)).block, (ai.add ((T).toNat * 5)).off + 4, none⟩ = some (.int .i64 ((rd_T57 J T).f2.f1))) [] ⟨cx D 0, cx D 1, b0, b1, b2, b3, b4⟩ (fun hHeld => ?_); refine with_tabW spec_l2Op.tab10 spec_l2Op.bits10 (fun HT_ HW_ => ?_)
         generalize eQ.drew = hA at Z D G y z HK HB b0 b1 b2 b3 b4 hHeld ⊢
         refine pu 0 38 ?_
         refine pu 2 40 ?_
         refine pu 3 41 ?_
         refine tk 1 39 ?_
         refine tk 4 42 ?_
         refine pu 5 43 ?_
         refine on 6 44 (fun K hK => ?_)
         refine gs Try.func18 #[.pointer (some ⟨g, 0, none⟩), .int .i64 (J.length : Int)] ?_
         with_reducible refine (spec_l9Rd_pick.calls k g O bX (J.length : Int) T df w0 _ ?X ?Y ey.out).mono ?_
         (case X => exact iis z.out)
         (case Y => exact bs HB.out)
         rintro e bL ⟨rfl, hi, hb, hk⟩
         have cy := keep_cell hk (hHeld.2.2.1) (by first | (rw [add_block]; exact cv) | (show (Addr.add _ _).block ≠ _; rw [add_block]; exact cv) | exact cv)
         have cz := keep_cell hk (hHeld.2.2.2.1) (by first | (rw [add_block]; exact cu) | (show (Addr.add _ _).block ≠ _; rw [add_block]; exact cu) | exact cu)
         have eS := keep_cell hk (hHeld.2.2.2.2.1) (by first | (rw [add_block]; exact ct) | (show (Addr.add _ _).block ≠ _; rw [add_block]; exact ct) | exact ct)
         have eT := keep_cell hk (hHeld.2.2.2.2.2.1) (by first | (rw [add_block]; exact cp) | (show (Addr.add _ _).block ≠ _; rw [add_block]; exact cp) | exact cp)
         have eU := keep_cell hk (hHeld.2.2.2.2.2.2) (by first | (rw [add_block]; exact co) | (show (Addr.add _ _).block ≠ _; rw [add_block]; exact co) | exact co)
         refine ⟨_, rfl, ?_⟩
         replace D := kk D hk
         replace G := kk G hk
         replace Z := ro Z z hk
         replace y := kk y hk
         replace HK := kt HK hk
         replace HB := am hb
         replace z := am hi
         (try clear hb)
         (try clear hb2)
         (try clear hk)
         (try clear hi)
         refine hK.out _ _ ⟨cx D 0, cx D 1, cy, cz, eS, eT, eU⟩ (fun hHeld => ?_)
         clear hK K
         refine nrm 44 ?_
         refine pu 7 45 ?_
         refine tk 8 46 ?_
         refine pu 9 47 ?_
         refine on0 10 (fun K hK => ?_)
         have hC : bL.cell? ⟨L, 3, none⟩ = some (.int .i64 au) := cx y 3
         have hD := blk_frozen y.out 3
         have hE := ab.out
         have hF := ag.out
         have hG := af.out
         have hH := ah.out
         have hJ : bL.cell? ⟨L, 4, none⟩ = some (.int .i64 av) := cx y 4
         have hL := blk_frozen y.out 4
         have hM := ab.out
         have hO := ag.out
         have hP := af.out
         have hR := ah.out
         have hT : bL.cell? ⟨L, 5, none⟩ = some (.int .i64 aw) := cx y 5
         have hU := blk_frozen y.out 5
         have hV := ab.out
         have hW := ag.out
         have hX := af.out
         have hY := ah.out
         have hZ : bL.cell? ⟨L, 6, none⟩ = some (.int .i64 ax) := cx y 6
         have h0 := blk_frozen y.out 6
         have h1 := ab.out
         have h2 := ag.out
         have h3 := af.out
         have h4 := ah.out
         have h5 : bL.cell? ⟨L, 7, none⟩ = some (.int .i64 ay) := cx y 7
         have h6 := blk_frozen y.out 7
         have h7 := ab.out
         have h8 := ag.out
         have h9 := af.out
         have ia := ah.out
         refine sk ?_
         refine hK.out _ _ ⟨((cell_far (p := ⟨L, _, none⟩) ab.out _).trans (((cell_far (p := ⟨L, _, none⟩) ab.out _).trans (((cell_far (p := ⟨L, _, none⟩) ab.out _).trans (((cell_far (p := ⟨L, _, none⟩) ab.out _).trans (((cell_far (p := ⟨L, _, none⟩) ab.out _).trans (hHeld.1)))))))))), ((cell_far (p := ⟨L, _, none⟩) ab.out _).trans (((cell_far (p := ⟨L, _, none⟩) ab.out _).trans (((cell_far (p := ⟨L, _, none⟩) ab.out _).trans (((cell_far (p := ⟨L, _, none⟩) ab.out _).trans (((cell_far (p := ⟨L, _, none⟩) ab.out _).trans (hHeld.2.1)))))))))), ((cell_far (p := ⟨L, _, none⟩) (nl2 bK ad) _).trans (((cell_far (p := ⟨L, _, none⟩) (nl2 bK ad) _).trans (((cell_far (p := ⟨L, _, none⟩) (nl2 bK ad) _).trans (((cell_far (p := ⟨L, _, none⟩) (nl2 bK ad) _).trans (((cell_far (p := ⟨L, _, none⟩) (nl2 bK ad) _).trans (hHeld.2.2.1)))))))))), ((cell_far (p := ⟨L, _, none⟩) (nl2 bJ ad) _).trans (((cell_far (p := ⟨L, _, none⟩) (nl2 bJ ad) _).trans (((cell_far (p := ⟨L, _, none⟩) (nl2 bJ ad) _).trans (((cell_far (p := ⟨L, _, none⟩) (nl2 bJ ad) _).trans (((cell_far (p := ⟨L, _, none⟩) (nl2 bJ ad) _).trans (hHeld.2.2.2.1)))))))))), ((cell_far (p := ⟨L, _, none⟩) (nl2 bI ad) _).trans (((cell_far (p := ⟨L, _, none⟩) (nl2 bI ad) _).trans (((cell_far (p := ⟨L, _, none⟩) (nl2 bI ad) _).trans (((cell_far (p := ⟨L, _, none⟩) (nl2 bI ad) _).trans (((cell_far (p := ⟨L, _, none⟩) (nl2 bI ad) _).trans (hHeld.2.2.2.2.1)))))))))), ((cell_far (p := ⟨L, _, none⟩) (nl2 bH ad) _).trans (((cell_far (p := ⟨L, _, none⟩) (nl2 bH ad) _).trans (((cell_far (p := ⟨L, _, none⟩) (nl2 bH ad) _).trans (((cell_far (p := ⟨L, _, none⟩) (nl2 bH ad) _).trans (((cell_far (p := ⟨L, _, none⟩) (nl2 bH ad) _).trans (hHeld.2.2.2.2.2.1)))))))))), ((cell_far (p := ⟨L, _, none⟩) (nl2 bG ad) _).trans (((cell_far (p := ⟨L, _, none⟩) (nl2 bG ad) _).trans (((cell_far (p := ⟨L, _, none⟩) (nl2 bG ad) _).trans (((cell_far (p := ⟨L, _, none⟩) (nl2 bG ad) _).trans (((cell_far (p := ⟨L, _, none⟩) (nl2 bG ad) _).trans (hHeld.2.2.2.2.2.2))))))))))⟩ (fun hHeld => ?_)
         clear hK K
         refine dn ?_
         try go_wp2
         go_meet
         case rel => exact ⟨_, (df), (0), (0), ((rd_T57 J T).f0), ((rd_T57 J T).f1.f0), ((rd_T57 J T).f1.f1), ((rd_T57 J T).f2.f0), ((rd_T57 J T).f2.f1), H', ⟨by first | omega | exact Nat.le_refl _⟩, ⟨bf D.out⟩, ⟨bf G.out⟩, ⟨by (with_reducible repeat (first | refine blk_drewN ?_ _ | refine blk_drew ?_ | refine blk_alloc ?_ _)); refine blk_put (cs := #[.int .i64 I, .int .i64 0, .int .i64 0, .int .i64 ((rd_T57 J T).f0), .int .i64 ((rd_T57 J T).f1.f0), .int .i64 ((rd_T57 J T).f1.f1), .int .i64 ((rd_T57 J T).f2.f0), .int .i64 ay]) ?_ 7 _ rfl; (with_reducible repeat (first | refine blk_drewN ?_ _ | refine blk_drew ?_ | refine blk_alloc ?_ _)); refine blk_put (cs := #[.int .i64 I, .int .i64 0, .int .i64 0, .int .i64 ((rd_T57 J T).f0), .int .i64 ((rd_T57 J T).f1.f0), .int .i64 ((rd_T57 J T).f1.f1), .int .i64 ax, .int .i64 ay]) ?_ 6 _ rfl; (with_reducible repeat (first | refine blk_drewN ?_ _ | refine blk_drew ?_ | refine blk_alloc ?_ _)); refine blk_put (cs := #[.int .i64 I, .int .i64 0, .int .i64 0, .int .i64 ((rd_T57 J T).f0), .int .i64 ((rd_T57 J T).f1.f0), .int .i64 aw, .int .i64 ax, .int .i64 ay]) ?_ 5 _ rfl; (with_reducible repeat (first | refine blk_drewN ?_ _ | refine blk_drew ?_ | refine blk_alloc ?_ _)); refine blk_put (cs := #[.int .i64 I, .int .i64 0, .int .i64 0, .int .i64 ((rd_T57 J T).f0), .int .i64 av, .int .i64 aw, .int .i64 ax, .int .i64 ay]) ?_ 4 _ rfl; (with_reducible repeat (first | refine blk_drewN ?_ _ | refine blk_drew ?_ | refine blk_alloc ?_ _)); refine blk_put (cs := #[.int .i64 I, .int .i64 0, .int .i64 0, .int .i64 au, .int .i64 av, .int .i64 aw, .int .i64 ax, .int .i64 ay]) ?_ 3 _ rfl; exact bf y.out⟩, ⟨iis z.out⟩, ⟨ks HK.out⟩, ⟨bs HB.out⟩⟩
        ·rw [if_neg bF] at H
         exact absurd H (by simp)
       ·rw [if_neg bE] at H
        exact absurd H (by simp)
      ·rw [if_neg a6] at H
       have de : decide (0 < bD) = false := decide_eq_false a6
       clear a6
       have H' := am H
       clear H
       have ic := aA.out
       have ie := aB.out
       have ig := ab.out
       have ih := af.out
       have ii := aZ.out
       have ij := aT.out
       obtain ⟨eV, eW⟩ := bc2 (w := bB) D.out
       have eX := blk_frozen D.out
       go_wp2_with (first | ((with_reducible refine gc 41 rfl ?_); refine gl 27 Try.func41 #[.pointer (some ⟨g, 0, none⟩), .agg #[.slice aO aa.length aH, .slice aP J.length aI]] ?_; (with_reducible refine (spec_l2Edge.calls k g O aJ _ _ aa _ _ J au av aw ax ay bn w0 _ ?X ?Y ?an ?ao ?ap ?a4 cn.out).mono ?_); (case X => exact iis z.out); (case Y => exact bs HB.out); (case an => exact Kd.C_foot_step al.out (ks HK.out)); (case ao => exact bU.out); (case ap => exact Kd.C_foot_step ac.out (ks HK.out)); (case a4 => exact bV.out); rintro e di ⟨rfl, hi, hb, hk⟩; refine ⟨_, rfl, ?_⟩; replace D := kk D hk; replace G := kk G hk; replace Z := rp Z y z hk; replace y := kp #[.int .i64 I, .int .i64 0, .int .i64 0, .int .i64 0, .int .i64 0, .int .i64 0, .int .i64 0, .int .i64 0] y hk; replace HK := kt HK hk; replace HB := am hb; replace z := am hi; (try clear hi hb hk); have ik := ah.out; have il := ag.out; have im := ar.out; have io := aq.out; obtain ⟨eY, eZ, e0, e1, e2, e3, e4, e5⟩ := bc8 (w := di) y.out; have e6 := blk_frozen y.out; obtain ⟨e7, e8⟩ := bc2 (w := di) D.out; have e9 := blk_frozen D.out) | (go_at_call 18; (with_reducible refine (spec_l9Rd_pick.calls k g O bn 4 bD bX w0 _ ?X ?Y dd.out).mono ?_); (case X => exact iis z.out); (case Y => exact bs HB.out); rintro e ip ⟨rfl, hi, hb, hk⟩; replace D := kk D hk; replace G := kk G hk; replace Z := rp Z y z hk; replace y := kp #[.int .i64 I, .int .i64 0, .int .i64 0, .int .i64 au, .int .i64 av, .int .i64 aw, .int .i64 ax, .int .i64 ay] y hk; replace HK := kt HK hk; replace HB := am hb; replace z := am hi; (try clear hi hb hk)))
       go_meet
       case rel => exact ⟨_, (bX), (0), (0), (au), (av), (aw), (ax), (ay), H', ⟨by first | omega | exact Nat.le_refl _⟩, ⟨bf D.out⟩, ⟨bf G.out⟩, ⟨bf y.out⟩, ⟨iis z.out⟩, ⟨ks HK.out⟩, ⟨bs HB.out⟩⟩
     ·rw [if_neg a5] at H
      have da : decide (0 < (J.length : Int)) = false := decide_eq_false a5
      have db : decide (0 < J.length) = false := decide_eq_false (by omega)
      clear a5
      have H' := am H
      clear H
      have iq := aA.out
      have ir := aB.out
      have it := ab.out
      have iu := af.out
      have iv := aZ.out
      have iw := aT.out
      obtain ⟨fa, fb⟩ := bc2 (w := bB) D.out
      have fc := blk_frozen D.out
      go_wp2_with (first | ((with_reducible refine gc 41 rfl ?_); refine gl 27 Try.func41 #[.pointer (some ⟨g, 0, none⟩), .agg #[.slice aO aa.length aH, .slice aP J.length aI]] ?_; (with_reducible refine (spec_l2Edge.calls k g O aJ _ _ aa _ _ J au av aw ax ay bn w0 _ ?X ?Y ?an ?ao ?ap ?a4 cn.out).mono ?_); (case X => exact iis z.out); (case Y => exact bs HB.out); (case an => exact Kd.C_foot_step al.out (ks HK.out)); (case ao => exact bU.out); (case ap => exact Kd.C_foot_step ac.out (ks HK.out)); (case a4 => exact bV.out); rintro e dj ⟨rfl, hi, hb, hk⟩; refine ⟨_, rfl, ?_⟩; replace D := kk D hk; replace G := kk G hk; replace Z := rp Z y z hk; replace y := kp #[.int .i64 I, .int .i64 0, .int .i64 0, .int .i64 0, .int .i64 0, .int .i64 0, .int .i64 0, .int .i64 0] y hk; replace HK := kt HK hk; replace HB := am hb; replace z := am hi; (try clear hi hb hk); have ix := ah.out; have iy := ag.out; have iz := ar.out; have iA := aq.out; obtain ⟨fd, fe, ff, fg, fh, fi, fj, fk⟩ := bc8 (w := dj) y.out; have fl := blk_frozen y.out; obtain ⟨fm, fo⟩ := bc2 (w := dj) D.out; have fp := blk_frozen D.out))
      go_meet
      case rel => exact ⟨_, (bn), (0), (0), (au), (av), (aw), (ax), (ay), H', ⟨by first | omega | exact Nat.le_refl _⟩, ⟨bf D.out⟩, ⟨bf G.out⟩, ⟨by (with_reducible repeat (first | refine blk_drewN ?_ _ | refine blk_drew ?_ | refine blk_alloc ?_ _)); refine blk_put (cs := #[.int .i64 I, .int .i64 0, .int .i64 0, .int .i64 au, .int .i64 av, .int .i64 aw, .int .i64 ax, .int .i64 0]) ?_ 7 _ rfl; (with_reducible repeat (first | refine blk_drewN ?_ _ | refine blk_drew ?_ | refine blk_alloc ?_ _)); refine blk_put (cs := #[.int .i64 I, .int .i64 0, .int .i64 0, .int .i64 au, .int .i64 av, .int .i64 aw, .int .i64 0, .int .i64 0]) ?_ 6 _ rfl; (with_reducible repeat (first | refine blk_drewN ?_ _ | refine blk_drew ?_ | refine blk_alloc ?_ _)); refine blk_put (cs := #[.int .i64 I, .int .i64 0, .int .i64 0, .int .i64 au, .int .i64 av, .int .i64 0, .int .i64 0, .int .i64 0]) ?_ 5 _ rfl; (with_reducible repeat (first | refine blk_drewN ?_ _ | refine blk_drew ?_ | refine blk_alloc ?_ _)); refine blk_put (cs := #[.int .i64 I, .int .i64 0, .int .i64 0, .int .i64 au, .int .i64 0, .int .i64 0, .int .i64 0, .int .i64 0]) ?_ 4 _ rfl; (with_reducible repeat (first | refine blk_drewN ?_ _ | refine blk_drew ?_ | refine blk_alloc ?_ _)); refine blk_put (cs := #[.int .i64 I, .int .i64 0, .int .i64 0, .int .i64 0, .int .i64 0, .int .i64 0, .int .i64 0, .int .i64 0]) ?_ 3 _ rfl; exact bf y.out⟩, ⟨iis z.out⟩, ⟨ks HK.out⟩, ⟨bs HB.out⟩⟩
    ·rw [if_neg aX] at H
     have cY : (I == 3) = false := beq_eq_false_iff_ne.mpr aX
     have cZ : (I != 3) = true := bne_iff_ne.mpr aX
     by_cases aY : I = 4
     ·rw [if_pos aY] at H
      have dk : (I == 4) = true := beq_iff_eq.mpr aY
      have dl : (I != 4) = false := bne_eq_false_iff_eq.mpr aY
      clear aY
      replace H := Option.bind_eq_some_iff.mp H
      obtain ⟨⟨aM, aN, bo⟩, dm, H⟩ := H
      try dsimp -simprocs only at H
      have cA := am dm
      clear dm
      by_cases a7 : (aa.length : Int) > 0
      ·rw [if_pos a7] at H
       have dp : decide (0 < (aa.length : Int)) = true := decide_eq_true a7
       have dq : decide (0 < aa.length) = true := decide_eq_true (by omega)
       clear a7
       replace H := Option.bind_eq_some_iff.mp H
       obtain ⟨⟨bM, b5⟩, dr, H⟩ := H
       try dsimp -simprocs only at H
       have dt := am dr
       clear dr
       by_cases a8 : bM > 0
       ·rw [if_pos a8] at H
        have du : decide (0 < bM) = true := decide_eq_true a8
        clear a8
        replace H := Option.bind_eq_some_iff.mp H
        obtain ⟨⟨aj, dv⟩, dw, H⟩ := H
        try dsimp -simprocs only at H
        have fq := am dw
        clear dw
        by_cases bN : 0 ≤ aj
        ·rw [if_pos bN] at H
         have fr : decide (0 ≤ aj) = true := decide_eq_true bN
         clear bN
         by_cases bO : aj < (aa.length : Int)
         ·rw [if_pos bO] at H
          have fs : decide (aj < (aa.length : Int)) = true := decide_eq_true bO
          clear bO
          have H' := am H
          clear H
          try go_wp2_with (first | ((with_reducible refine gc 40 rfl ?_); refine gl 51 Try.func40 #[.pointer (some ⟨g, 0, none⟩)] ?_; (with_reducible refine (spec_l2Node.calls k g O aJ aM aN bo w0 _ ?X ?Y cA.out).mono ?_); (case X => exact iis z.out); (case Y => exact bs HB.out); rintro e dx ⟨rfl, hi, hb, hk⟩; refine ⟨_, rfl, ?_⟩; replace D := kk D hk; replace G := kk G hk; replace Z := rp Z y z hk; replace y := kp #[.int .i64 I, .int .i64 0, .int .i64 0, .int .i64 0, .int .i64 0, .int .i64 0, .int .i64 0, .int .i64 0] y hk; replace HK := kt HK hk; replace HB := am hb; replace z := am hi; (try clear hi hb hk); have iB := af.out; have iC := ab.out; have iD := ah.out; have iE := ag.out; have iF := ar.out; have iG := aq.out; obtain ⟨ft, fu, fv, fw, fx, fy, fz, fA⟩ := bc8 (w := dx) y.out; have fB := blk_frozen y.out; have iH := aA.out; have iI := aB.out; have iJ := aZ.out; have iK := aT.out; obtain ⟨fC, fD⟩ := bc2 (w := dx) D.out; have fE := blk_frozen D.out) | (go_at_call 18; (with_reducible refine (spec_l9Rd_pick.calls k g O bo 2 bM b5 w0 _ ?X ?Y dt.out).mono ?_); (case X => exact iis z.out); (case Y => exact bs HB.out); rintro e fF ⟨rfl, hi, hb, hk⟩; replace D := kk D hk; replace G := kk G hk; replace Z := rp Z y z hk; replace y := kp #[.int .i64 I, .int .i64 aM, .int .i64 aN, .int .i64 0, .int .i64 0, .int .i64 0, .int .i64 0, .int .i64 0] y hk; replace HK := kt HK hk; replace HB := am hb; replace z := am hi; (try clear hi hb hk)))
          replace Z := rd_ Z
          replace D := bd D
          replace G := bd G
          replace y := bd y
          replace z := am (IsS46.drew z.out)
          replace HK := am (keep_drew HK.out)
          replace HB := hd HB
          have b6 : 0 ≤ (aj : Int) := oda
          have b7 : aj < (aa.length : Int) := oda
          obtain ⟨a9, fG, b8, b9⟩ := at_T55 (Kd.C_foot_now al.out HK.out) aj b6 b7
          have iL := b9
          have iM := b8
          cases fG
          have cB := (show (⟨(a9.add ((aj).toNat * 2)).block, (a9.add ((aj).toNat * 2)).off + 1, none⟩ : Addr).block ≠ g from by first | (rw [add_block]; exact Kd.foot_ne al.out (by omega) (by decide)) | (show (Addr.add _ _).block ≠ _; rw [add_block]; exact Kd.foot_ne al.out (by omega) (by decide)) | exact Kd.foot_ne al.out (by omega) (by decide) | (dsimp only; exact Kd.foot_ne al.out (by omega) (by decide)))
          have dy := (Kd.foot_lt al.out (by omega) (by decide))
          have cC := (show ((a9.add ((aj).toNat * 2)) : Addr).block ≠ g from by first | (rw [add_block]; exact Kd.foot_ne al.out (by omega) (by decide)) | (show (Addr.add _ _).block ≠ _; rw [add_block]; exact Kd.foot_ne al.out (by omega) (by decide)) | exact Kd.foot_ne al.out (by omega) (by decide) | (dsimp only; exact Kd.foot_ne al.out (by omega) (by decide)))
          have dz := (Kd.foot_lt al.out (by omega) (by decide))
          replace b6 := eq_true b6
          replace b7 := eq_true b7
          refine sta 11 (fun w' => w'.cell? ⟨bw, 0, none⟩ = some (.slice (some a9) aa.length aH) ∧ w'.cell? ⟨bw, 1, none⟩ = some (.slice aP J.length aI) ∧ w'.cell? (a9.add ((aj).toNat * 2)) = some (.int .i64 ((rd_T55 aa aj).f0)) ∧ w'.cell? ⟨(a9.add ((aj).toNat * 2)).block, (a9.add ((aj).toNat * 2)).off + 1, none⟩ = some (.int .i64 ((rd_T55 aa aj).f1))) [] ⟨cx D 0, cx D 1, b8, b9⟩ (fun hHeld => ?_); refine with_tabW spec_l2Op.tab14 spec_l2Op.bits14 (fun HT_ HW_ => ?_)
          generalize fF.drew = iN at Z D G y z HK HB b8 b9 hHeld ⊢
          refine pu 0 62 ?_
          refine pu 2 64 ?_
          refine pu 3 65 ?_
          refine tk 1 63 ?_
          refine tk 4 66 ?_
          refine pu 5 67 ?_
          refine on 6 68 (fun K hK => ?_)
          refine gs Try.func18 #[.pointer (some ⟨g, 0, none⟩), .int .i64 (aa.length : Int)] ?_
          with_reducible refine (spec_l9Rd_pick.calls k g O b5 (aa.length : Int) aj dv w0 _ ?X ?Y fq.out).mono ?_
          (case X => exact iis z.out)
          (case Y => exact bs HB.out)
          rintro e dA ⟨rfl, hi, hb, hk⟩
          have cy := keep_cell hk (hHeld.2.2.1) (by first | (rw [add_block]; exact cC) | (show (Addr.add _ _).block ≠ _; rw [add_block]; exact cC) | exact cC)
          have cz := keep_cell hk (hHeld.2.2.2) (by first | (rw [add_block]; exact cB) | (show (Addr.add _ _).block ≠ _; rw [add_block]; exact cB) | exact cB)
          refine ⟨_, rfl, ?_⟩
          replace D := kk D hk
          replace G := kk G hk
          replace Z := ro Z z hk
          replace y := kk y hk
          replace HK := kt HK hk
          replace HB := am hb
          replace z := am hi
          (try clear hb)
          (try clear hb2)
          (try clear hk)
          (try clear hi)
          refine hK.out _ _ ⟨cx D 0, cx D 1, cy, cz⟩ (fun hHeld => ?_)
          clear hK K
          refine nrm 68 ?_
          refine pu 7 69 ?_
          refine tk 8 70 ?_
          refine pu 9 71 ?_
          refine on0 10 (fun K hK => ?_)
          have iO : dA.cell? ⟨L, 1, none⟩ = some (.int .i64 aM) := cx y 1
          have iP := blk_frozen y.out 1
          have iQ := ab.out
          have iR := ag.out
          have iS := af.out
          have iT := ah.out
          have iU : dA.cell? ⟨L, 2, none⟩ = some (.int .i64 aN) := cx y 2
          have iV := blk_frozen y.out 2
          have iW := ab.out
          have iX := ag.out
          have iY := af.out
          have iZ := ah.out
          refine sk ?_
          refine hK.out _ _ ⟨((cell_far (p := ⟨L, _, none⟩) ab.out _).trans (((cell_far (p := ⟨L, _, none⟩) ab.out _).trans (hHeld.1)))), ((cell_far (p := ⟨L, _, none⟩) ab.out _).trans (((cell_far (p := ⟨L, _, none⟩) ab.out _).trans (hHeld.2.1)))), ((cell_far (p := ⟨L, _, none⟩) (nl2 dz ad) _).trans (((cell_far (p := ⟨L, _, none⟩) (nl2 dz ad) _).trans (hHeld.2.2.1)))), ((cell_far (p := ⟨L, _, none⟩) (nl2 dy ad) _).trans (((cell_far (p := ⟨L, _, none⟩) (nl2 dy ad) _).trans (hHeld.2.2.2))))⟩ (fun hHeld => ?_)
          clear hK K
          refine dn ?_
          try go_wp2
          go_meet
          case rel => exact ⟨_, (dv), ((rd_T55 aa aj).f0), ((rd_T55 aa aj).f1), (0), (0), (0), (0), (0), H', ⟨by first | omega | exact Nat.le_refl _⟩, ⟨bf D.out⟩, ⟨bf G.out⟩, ⟨by (with_reducible repeat (first | refine blk_drewN ?_ _ | refine blk_drew ?_ | refine blk_alloc ?_ _)); refine blk_put (cs := #[.int .i64 I, .int .i64 ((rd_T55 aa aj).f0), .int .i64 aN, .int .i64 0, .int .i64 0, .int .i64 0, .int .i64 0, .int .i64 0]) ?_ 2 _ rfl; (with_reducible repeat (first | refine blk_drewN ?_ _ | refine blk_drew ?_ | refine blk_alloc ?_ _)); refine blk_put (cs := #[.int .i64 I, .int .i64 aM, .int .i64 aN, .int .i64 0, .int .i64 0, .int .i64 0, .int .i64 0, .int .i64 0]) ?_ 1 _ rfl; exact bf y.out⟩, ⟨iis z.out⟩, ⟨ks HK.out⟩, ⟨bs HB.out⟩⟩
         ·rw [if_neg bO] at H
          exact absurd H (by simp)
        ·rw [if_neg bN] at H
         exact absurd H (by simp)
       ·rw [if_neg a8] at H
        have du : decide (0 < bM) = false := decide_eq_false a8
        clear a8
        have H' := am H
        clear H
        go_wp2_with (first | ((with_reducible refine gc 40 rfl ?_); refine gl 51 Try.func40 #[.pointer (some ⟨g, 0, none⟩)] ?_; (with_reducible refine (spec_l2Node.calls k g O aJ aM aN bo w0 _ ?X ?Y cA.out).mono ?_); (case X => exact iis z.out); (case Y => exact bs HB.out); rintro e dB ⟨rfl, hi, hb, hk⟩; refine ⟨_, rfl, ?_⟩; replace D := kk D hk; replace G := kk G hk; replace Z := rp Z y z hk; replace y := kp #[.int .i64 I, .int .i64 0, .int .i64 0, .int .i64 0, .int .i64 0, .int .i64 0, .int .i64 0, .int .i64 0] y hk; replace HK := kt HK hk; replace HB := am hb; replace z := am hi; (try clear hi hb hk); have i0 := af.out; have i1 := ab.out; have i2 := ah.out; have i3 := ag.out; have i4 := ar.out; have i5 := aq.out; obtain ⟨fH, fI, fJ, fK, fL, fM, fN, fO⟩ := bc8 (w := dB) y.out; have fP := blk_frozen y.out; have i6 := aA.out; have i7 := aB.out; have i8 := aZ.out; have i9 := aT.out; obtain ⟨fQ, fR⟩ := bc2 (w := dB) D.out; have fS := blk_frozen D.out) | (go_at_call 18; (with_reducible refine (spec_l9Rd_pick.calls k g O bo 2 bM b5 w0 _ ?X ?Y dt.out).mono ?_); (case X => exact iis z.out); (case Y => exact bs HB.out); rintro e ja ⟨rfl, hi, hb, hk⟩; replace D := kk D hk; replace G := kk G hk; replace Z := rp Z y z hk; replace y := kp #[.int .i64 I, .int .i64 aM, .int .i64 aN, .int .i64 0, .int .i64 0, .int .i64 0, .int .i64 0, .int .i64 0] y hk; replace HK := kt HK hk; replace HB := am hb; replace z := am hi; (try clear hi hb hk)))
        go_meet
        case rel => exact ⟨_, (b5), (aM), (aN), (0), (0), (0), (0), (0), H', ⟨by first | omega | exact Nat.le_refl _⟩, ⟨bf D.out⟩, ⟨bf G.out⟩, ⟨bf y.out⟩, ⟨iis z.out⟩, ⟨ks HK.out⟩, ⟨bs HB.out⟩⟩
      ·rw [if_neg a7] at H
       have dp : decide (0 < (aa.length : Int)) = false := decide_eq_false a7
       have dq : decide (0 < aa.length) = false := decide_eq_false (by omega)
       clear a7
       have H' := am H
       clear H
       go_wp2_with (first | ((with_reducible refine gc 40 rfl ?_); refine gl 51 Try.func40 #[.pointer (some ⟨g, 0, none⟩)] ?_; (with_reducible refine (spec_l2Node.calls k g O aJ aM aN bo w0 _ ?X ?Y cA.out).mono ?_); (case X => exact iis z.out); (case Y => exact bs HB.out); rintro e dC ⟨rfl, hi, hb, hk⟩; refine ⟨_, rfl, ?_⟩; replace D := kk D hk; replace G := kk G hk; replace Z := rp Z y z hk; replace y := kp #[.int .i64 I, .int .i64 0, .int .i64 0, .int .i64 0, .int .i64 0, .int .i64 0, .int .i64 0, .int .i64 0] y hk; replace HK := kt HK hk; replace HB := am hb; replace z := am hi; (try clear hi hb hk); have jb := af.out; have jc := ab.out; have jd := ah.out; have je := ag.out; have jf := ar.out; have jg := aq.out; obtain ⟨fT, fU, fV, fW, fX, fY, fZ, f3⟩ := bc8 (w := dC) y.out; have f4 := blk_frozen y.out; have jh := aA.out; have ji := aB.out; have jj := aZ.out; have jk := aT.out; obtain ⟨f5, f6⟩ := bc2 (w := dC) D.out; have f7 := blk_frozen D.out))
       go_meet
       case rel => exact ⟨_, (bo), (aM), (aN), (0), (0), (0), (0), (0), H', ⟨by first | omega | exact Nat.le_refl _⟩, ⟨bf D.out⟩, ⟨bf G.out⟩, ⟨by (with_reducible repeat (first | refine blk_drewN ?_ _ | refine blk_drew ?_ | refine blk_alloc ?_ _)); refine blk_put (cs := #[.int .i64 I, .int .i64 aM, .int .i64 0, .int .i64 0, .int .i64 0, .int .i64 0, .int .i64 0, .int .i64 0]) ?_ 2 _ rfl; (with_reducible repeat (first | refine blk_drewN ?_ _ | refine blk_drew ?_ | refine blk_alloc ?_ _)); refine blk_put (cs := #[.int .i64 I, .int .i64 0, .int .i64 0, .int .i64 0, .int .i64 0, .int .i64 0, .int .i64 0, .int .i64 0]) ?_ 1 _ rfl; exact bf y.out⟩, ⟨iis z.out⟩, ⟨ks HK.out⟩, ⟨bs HB.out⟩⟩
     ·rw [if_neg aY] at H
      have dk : (I == 4) = false := beq_eq_false_iff_ne.mpr aY
      have dl : (I != 4) = true := bne_iff_ne.mpr aY
      have H' := am H
      clear H
      go_wp2
      go_meet
      case rel => exact ⟨_, (aJ), (0), (0), (0), (0), (0), (0), (0), H', ⟨by first | omega | exact Nat.le_refl _⟩, ⟨bf D.out⟩, ⟨bf G.out⟩, ⟨by (with_reducible repeat (first | refine blk_drewN ?_ _ | refine blk_drew ?_ | refine blk_alloc ?_ _)); refine blk_put (cs := #[.int .i64 I, .int .i64 0, .int .i64 0, .int .i64 0, .int .i64 0, .int .i64 0, .int .i64 0, .int .i64 0]) ?_ 7 _ rfl; (with_reducible repeat (first | refine blk_drewN ?_ _ | refine blk_drew ?_ | refine blk_alloc ?_ _)); refine blk_put (cs := #[.int .i64 I, .int .i64 0, .int .i64 0, .int .i64 0, .int .i64 0, .int .i64 0, .int .i64 0, .int .i64 0]) ?_ 6 _ rfl; (with_reducible repeat (first | refine blk_drewN ?_ _ | refine blk_drew ?_ | refine blk_alloc ?_ _)); refine blk_put (cs := #[.int .i64 I, .int .i64 0, .int .i64 0, .int .i64 0, .int .i64 0, .int .i64 0, .int .i64 0, .int .i64 0]) ?_ 5 _ rfl; (with_reducible repeat (first | refine blk_drewN ?_ _ | refine blk_drew ?_ | refine blk_alloc ?_ _)); refine blk_put (cs := #[.int .i64 I, .int .i64 0, .int .i64 0, .int .i64 0, .int .i64 0, .int .i64 0, .int .i64 0, .int .i64 0]) ?_ 4 _ rfl; (with_reducible repeat (first | refine blk_drewN ?_ _ | refine blk_drew ?_ | refine blk_alloc ?_ _)); refine blk_put (cs := #[.int .i64 I, .int .i64 0, .int .i64 0, .int .i64 0, .int .i64 0, .int .i64 0, .int .i64 0, .int .i64 0]) ?_ 3 _ rfl; (with_reducible repeat (first | refine blk_drewN ?_ _ | refine blk_drew ?_ | refine blk_alloc ?_ _)); refine blk_put (cs := #[.int .i64 I, .int .i64 0, .int .i64 0, .int .i64 0, .int .i64 0, .int .i64 0, .int .i64 0, .int .i64 0]) ?_ 2 _ rfl; (with_reducible repeat (first | refine blk_drewN ?_ _ | refine blk_drew ?_ | refine blk_alloc ?_ _)); refine blk_put (cs := #[.int .i64 I, .int .i64 0, .int .i64 0, .int .i64 0, .int .i64 0, .int .i64 0, .int .i64 0, .int .i64 0]) ?_ 1 _ rfl; (with_reducible repeat (first | refine blk_drewN ?_ _ | refine blk_drew ?_ | refine blk_alloc ?_ _)); refine blk_put (cs := #[.int .i64 0, .int .i64 0, .int .i64 0, .int .i64 0, .int .i64 0, .int .i64 0, .int .i64 0, .int .i64 0]) ?_ 0 _ rfl; exact bf y.out⟩, ⟨iis z.out⟩, ⟨ks HK.out⟩, ⟨bs HB.out⟩⟩
 case rest =>
  clear ck
  try clear c1
  try clear c2
  try clear p2
  try clear c3
  try clear c4
  try clear c5
  try clear p5
  try clear q5
  try clear jl
  try clear c6
  try clear c7
  try clear c8
  try clear c9
  try clear jm
  try clear jn
  try clear jo
  try clear jp
  try clear jq
  try clear aV
  try clear bl
  try clear cP
  try clear jr
  try clear js
  try clear jt
  try clear ju
  try clear aW
  try clear cT
  try clear cU
  try clear jv
  try clear jw
  try clear jx
  try clear jy
  try clear jz
  try clear aX
  try clear cY
  try clear cZ
  try clear a5
  try clear da
  try clear db
  try clear a6
  try clear de
  try clear bE
  try clear ez
  try clear bF
  try clear eA
  try clear jA
  try clear jB
  try clear jC
  try clear jD
  try clear jE
  try clear jF
  try clear jG
  try clear jH
  try clear jI
  try clear jJ
  try clear jK
  try clear jL
  try clear jM
  try clear jN
  try clear jO
  try clear jP
  try clear jQ
  try clear jR
  try clear jS
  try clear jT
  try clear jU
  try clear aY
  try clear dk
  try clear dl
  try clear a7
  try clear dp
  try clear dq
  try clear a8
  try clear du
  try clear bN
  try clear fr
  try clear bO
  try clear fs
  try clear jV
  try clear jW
  try clear jX
  try clear jY
  try clear jZ
  try clear j1
  try clear j2
  try clear j3
  try clear j4
  try clear j5
  try clear j6
  try clear j7
  try clear j8
  try clear j9
  try clear ka
  try clear fH fI fJ fK fL fM fN fO
  try clear fQ fR
  try clear fT fU fV fW fX fY fZ f3
  try clear f5 f6
  try clear d0 d1 d2 d3 d4 d5 d6 d7
  try clear eb ec ed ee ef eg eh ei
  try clear el em
  try clear ep eq er es et eu ev ew
  try clear eB eC
  try clear eE eF eG eH eI eJ eK eL
  try clear eN eO
  try clear eV eW
  try clear eY eZ e0 e1 e2 e3 e4 e5
  try clear e7 e8
  try clear fa fb
  try clear fd fe ff fg fh fi fj fk
  try clear fm fo
  try clear ft fu fv fw fx fy fz fA
  try clear fC fD
  try clear fP
  try clear fS
  try clear f4
  try clear f7
  try clear d8
  try clear ej
  try clear en
  try clear ex
  try clear eD
  try clear eM
  try clear eP
  try clear eX
  try clear e6
  try clear e9
  try clear fc
  try clear fl
  try clear fp
  try clear fB
  try clear fE
  try clear b0
  try clear b1
  try clear b2
  try clear b3
  try clear b4
  try clear b8
  try clear b9
  try clear bY
  try clear b6
  try clear bZ
  try clear b7
  obtain ⟨kq, aU, aE, aQ, aR, aC, aD, aK, aL, HA, kc, D, G, y, z, HK, HB⟩ := hcut
  cases kq with
  | zero => exact absurd HA.out (by simp [spec_l2Op.j0])
  | succ aF =>
   have H := HA.out
   clear HA
   simp only [spec_l2Op.j0] at H
   replace H := Option.bind_eq_some_iff.mp H
   obtain ⟨⟨ae, aG⟩, dD, H⟩ := H
   try dsimp -simprocs only at H
   have bP := am dD
   clear dD
   by_cases ba : ae = 0
   ·rw [if_pos ba] at H
    have f8 : (ae == 0) = true := beq_iff_eq.mpr ba
    have f9 : (ae != 0) = false := bne_eq_false_iff_eq.mpr ba
    clear ba
    obtain ⟨cD, cE⟩ : ∃ y_ : List Int, y_ = (([0, 5, (-1), 2] : List Int)) := ⟨_, rfl⟩
    replace H : ((spec_l9Rd_num.f aF O aG cD).bind fun dE => (some (dE.1, aE, aQ, aR, aC, aD, aK, aL, dE.2))) = some (r1, r2, r3, r4, r5, r6, r7, r8, r9) := by first | (rw [cE]; exact H) | exact H
    have dF := am cE
    clear cE
    replace H := Option.bind_eq_some_iff.mp H
    obtain ⟨⟨dG, ga⟩, dH, H⟩ := H
    try dsimp -simprocs only at H
    have gb := am dH
    clear dH
    simp only [Option.some.injEq, Prod.mk.injEq] at H
    obtain ⟨rfl, rfl, rfl, rfl, rfl, rfl, rfl, rfl, rfl⟩ := H
    go_wp2_with (first | ((with_reducible refine gc 18 rfl ?_); refine gl 73 Try.func18 #[.pointer (some ⟨g, 0, none⟩), .int .i64 60] ?_; (with_reducible refine (spec_l9Rd_pick.calls aF g O aU 60 ae aG w0 _ ?X ?Y bP.out).mono ?_); (case X => exact iis z.out); (case Y => exact bs HB.out); rintro e kd ⟨rfl, hi, hb, hk⟩; refine ⟨_, rfl, ?_⟩; replace D := kk D hk; replace G := kk G hk; replace y := kk y hk; replace HK := kt HK hk; replace HB := am hb; replace z := am hi; (try clear hi hb hk)) | ((with_reducible refine gd 77 rfl ?_); refine Kd.R_lit (Kd.int .i64) _ 3 ?hg (N := 77) ?hd (xs := ([0, 5, (-1), 2] : List Int)) (inner := [.int .i64 0, .int .i64 5, .int .i64 (-1), .int .i64 2]) (ok := fun _ => True) (okp := fun _ => True) ?hr ?hp (fun _ hk => hk) trivial (Below.refl _ _) (Nat.le_refl _) (by simp) ?_; (case hd => rfl); (case hg => rfl); (case hr => first | (go_simp; done) | (go_simp; rfl)); (case hp => exact (Reps.one (show Kd.M (Kd.int .i64) _ _ _ 0 [.int .i64 0] from rfl) (Reps.one (show Kd.M (Kd.int .i64) _ _ _ 5 [.int .i64 5] from rfl) (Reps.one (show Kd.M (Kd.int .i64) _ _ _ (-1) [.int .i64 (-1)] from rfl) (Reps.one (show Kd.M (Kd.int .i64) _ _ _ 2 [.int .i64 2] from rfl) (Reps.none _ _)))))); intro ke kf bQ hb hg_ hnew_; clear hg_ hnew_; (first | rw [← dF.out] at bQ | (simp only [Int.reduceToNat] at bQ; rw [← dF.out] at bQ)); have br := am (Kd.R_lower bQ (keep_size (w := w) (g := g) (row := none) (ks HK.out))); replace D := bb D hb rfl; replace G := bb G hb rfl; replace y := bb y hb rfl; replace z := ib z hb; replace HK := kb HK hb; replace HB := hs HB hb; clear hb bQ; obtain ⟨gf, gg, gh⟩ := Kd.R_slice br.out; subst gh) | ((with_reducible refine gc 19 rfl ?_); refine gl 78 Try.func19 #[.pointer (some ⟨g, 0, none⟩), .slice gf cD.length gg] ?_; (with_reducible refine (spec_l9Rd_num.calls aF g O aG _ _ cD dG ga w0 _ ?X ?Y ?an ?ao ?ap gb.out).mono ?_); (case X => exact iis z.out); (case Y => exact bs HB.out); (case an => exact cr br); (case ao => exact cc br); (case ap => exact far_slice (IsS46.own_ne z.out br.out (by decide))); rintro e dI ⟨rfl, hi, hb, hk⟩; refine ⟨_, rfl, ?_⟩; replace D := kk D hk; replace G := kk G hk; replace y := kk y hk; replace br := ro br z hk; replace HK := kt HK hk; replace HB := am hb; replace z := am hi; (try clear hi hb hk); have kg := af.out; have kh := ab.out; have ki := ah.out; have kj := ag.out; have km := ar.out; have kn := aq.out; obtain ⟨ko, kr, ku, kv, kw, kx, ky, kz⟩ := bc8 (w := dI) y.out; have kA := blk_frozen y.out; have kB := aB.out; have kC := aA.out; have kD := bz.out; have kE := bk.out; obtain ⟨kF, kG, kH, kI, kJ, kK, kL, kM⟩ := bc8 (w := dI) G.out; have kN := blk_frozen G.out))
    refine bodyPost_ret (results_cell_row rfl _ _ bj 59 #[.int .i64 dG, .int .i64 aE, .int .i64 aQ, .int .i64 aR, .int .i64 aC, .int .i64 aD, .int .i64 aK, .int .i64 aL] (0, 0) _ rfl (bp G.out rfl) Try.underlying59 rfl (by kernel_rfl)) rfl ?_
    exact ⟨eqr, iis z.out, bs HB.out, ks HK.out⟩
   ·rw [if_neg ba] at H
    have f8 : (ae == 0) = false := beq_eq_false_iff_ne.mpr ba
    have f9 : (ae != 0) = true := bne_iff_ne.mpr ba
    by_cases bc : ae = 1
    ·rw [if_pos bc] at H
     have gi : (ae == 1) = true := beq_iff_eq.mpr bc
     have gj : (ae != 1) = false := bne_eq_false_iff_eq.mpr bc
     clear bc
     obtain ⟨cF, cG⟩ : ∃ y_ : List Int, y_ = (([(-1), 41, 5] : List Int)) := ⟨_, rfl⟩
     replace H : ((spec_l9Rd_num.f aF O aG cF).bind fun dJ => (some (I, aE, dJ.1, aR, aC, aD, aK, aL, dJ.2))) = some (r1, r2, r3, r4, r5, r6, r7, r8, r9) := by first | (rw [cG]; exact H) | exact H
     have dK := am cG
     clear cG
     replace H := Option.bind_eq_some_iff.mp H
     obtain ⟨⟨dL, gm⟩, dM, H⟩ := H
     try dsimp -simprocs only at H
     have gn := am dM
     clear dM
     simp only [Option.some.injEq, Prod.mk.injEq] at H
     obtain ⟨rfl, rfl, rfl, rfl, rfl, rfl, rfl, rfl, rfl⟩ := H
     go_wp2_with (first | ((with_reducible refine gc 18 rfl ?_); refine gl 73 Try.func18 #[.pointer (some ⟨g, 0, none⟩), .int .i64 60] ?_; (with_reducible refine (spec_l9Rd_pick.calls aF g O aU 60 ae aG w0 _ ?X ?Y bP.out).mono ?_); (case X => exact iis z.out); (case Y => exact bs HB.out); rintro e kO ⟨rfl, hi, hb, hk⟩; refine ⟨_, rfl, ?_⟩; replace D := kk D hk; replace G := kk G hk; replace y := kk y hk; replace HK := kt HK hk; replace HB := am hb; replace z := am hi; (try clear hi hb hk)) | ((with_reducible refine gd 83 rfl ?_); refine Kd.R_lit (Kd.int .i64) _ 3 ?hg (N := 83) ?hd (xs := ([(-1), 41, 5] : List Int)) (inner := [.int .i64 (-1), .int .i64 41, .int .i64 5]) (ok := fun _ => True) (okp := fun _ => True) ?hr ?hp (fun _ hk => hk) trivial (Below.refl _ _) (Nat.le_refl _) (by simp) ?_; (case hd => rfl); (case hg => rfl); (case hr => first | (go_simp; done) | (go_simp; rfl)); (case hp => exact (Reps.one (show Kd.M (Kd.int .i64) _ _ _ (-1) [.int .i64 (-1)] from rfl) (Reps.one (show Kd.M (Kd.int .i64) _ _ _ 41 [.int .i64 41] from rfl) (Reps.one (show Kd.M (Kd.int .i64) _ _ _ 5 [.int .i64 5] from rfl) (Reps.none _ _))))); intro kP kQ bR hb hg_ hnew_; clear hg_ hnew_; (first | rw [← dK.out] at bR | (simp only [Int.reduceToNat] at bR; rw [← dK.out] at bR)); have bt := am (Kd.R_lower bR (keep_size (w := w) (g := g) (row := none) (ks HK.out))); replace D := bb D hb rfl; replace G := bb G hb rfl; replace y := bb y hb rfl; replace z := ib z hb; replace HK := kb HK hb; replace HB := hs HB hb; clear hb bR; obtain ⟨go, gp, gq⟩ := Kd.R_slice bt.out; subst gq) | ((with_reducible refine gc 19 rfl ?_); refine gl 84 Try.func19 #[.pointer (some ⟨g, 0, none⟩), .slice go cF.length gp] ?_; (with_reducible refine (spec_l9Rd_num.calls aF g O aG _ _ cF dL gm w0 _ ?X ?Y ?an ?ao ?ap gn.out).mono ?_); (case X => exact iis z.out); (case Y => exact bs HB.out); (case an => exact cr bt); (case ao => exact cc bt); (case ap => exact far_slice (IsS46.own_ne z.out bt.out (by decide))); rintro e dN ⟨rfl, hi, hb, hk⟩; refine ⟨_, rfl, ?_⟩; replace D := kk D hk; replace G := kk G hk; replace y := kk y hk; replace bt := ro bt z hk; replace HK := kt HK hk; replace HB := am hb; replace z := am hi; (try clear hi hb hk); have kR := af.out; have kS := ab.out; have kT := ah.out; have kU := ag.out; have kV := ar.out; have kW := aq.out; obtain ⟨kX, kY, kZ, k0, k2, k3, k4, k5⟩ := bc8 (w := dN) y.out; have k6 := blk_frozen y.out; have k7 := aB.out; have k8 := aA.out; have k9 := bz.out; have lb := bk.out; obtain ⟨lc, ld, le, lf, lg, lh, li, lj⟩ := bc8 (w := dN) G.out; have lk := blk_frozen G.out))
     refine bodyPost_ret (results_cell_row rfl _ _ bj 59 #[.int .i64 I, .int .i64 aE, .int .i64 dL, .int .i64 aR, .int .i64 aC, .int .i64 aD, .int .i64 aK, .int .i64 aL] (0, 0) _ rfl (bp G.out rfl) Try.underlying59 rfl (by kernel_rfl)) rfl ?_
     exact ⟨eqr, iis z.out, bs HB.out, ks HK.out⟩
    ·rw [if_neg bc] at H
     have gi : (ae == 1) = false := beq_eq_false_iff_ne.mpr bc
     have gj : (ae != 1) = true := bne_iff_ne.mpr bc
     by_cases be : ae = 2
     ·rw [if_pos be] at H
      have gt : (ae == 2) = true := beq_iff_eq.mpr be
      have gu : (ae != 2) = false := bne_eq_false_iff_eq.mpr be
      clear be
      obtain ⟨cH, cI⟩ : ∃ y_ : List Int, y_ = (([0, 8, (-1)] : List Int)) := ⟨_, rfl⟩
      replace H : ((spec_l9Rd_num.f aF O aG cH).bind fun dO => (some (I, aE, aQ, dO.1, aC, aD, aK, aL, dO.2))) = some (r1, r2, r3, r4, r5, r6, r7, r8, r9) := by first | (rw [cI]; exact H) | exact H
      have dP := am cI
      clear cI
      replace H := Option.bind_eq_some_iff.mp H
      obtain ⟨⟨dQ, gv⟩, dR, H⟩ := H
      try dsimp -simprocs only at H
      have gw := am dR
      clear dR
      simp only [Option.some.injEq, Prod.mk.injEq] at H
      obtain ⟨rfl, rfl, rfl, rfl, rfl, rfl, rfl, rfl, rfl⟩ := H
      go_wp2_with (first | ((with_reducible refine gc 18 rfl ?_); refine gl 73 Try.func18 #[.pointer (some ⟨g, 0, none⟩), .int .i64 60] ?_; (with_reducible refine (spec_l9Rd_pick.calls aF g O aU 60 ae aG w0 _ ?X ?Y bP.out).mono ?_); (case X => exact iis z.out); (case Y => exact bs HB.out); rintro e ll ⟨rfl, hi, hb, hk⟩; refine ⟨_, rfl, ?_⟩; replace D := kk D hk; replace G := kk G hk; replace y := kk y hk; replace HK := kt HK hk; replace HB := am hb; replace z := am hi; (try clear hi hb hk)) | ((with_reducible refine gd 90 rfl ?_); refine Kd.R_lit (Kd.int .i64) _ 3 ?hg (N := 90) ?hd (xs := ([0, 8, (-1)] : List Int)) (inner := [.int .i64 0, .int .i64 8, .int .i64 (-1)]) (ok := fun _ => True) (okp := fun _ => True) ?hr ?hp (fun _ hk => hk) trivial (Below.refl _ _) (Nat.le_refl _) (by simp) ?_; (case hd => rfl); (case hg => rfl); (case hr => first | (go_simp; done) | (go_simp; rfl)); (case hp => exact (Reps.one (show Kd.M (Kd.int .i64) _ _ _ 0 [.int .i64 0] from rfl) (Reps.one (show Kd.M (Kd.int .i64) _ _ _ 8 [.int .i64 8] from rfl) (Reps.one (show Kd.M (Kd.int .i64) _ _ _ (-1) [.int .i64 (-1)] from rfl) (Reps.none _ _))))); intro lm ln bS hb hg_ hnew_; clear hg_ hnew_; (first | rw [← dP.out] at bS | (simp only [Int.reduceToNat] at bS; rw [← dP.out] at bS)); have bu := am (Kd.R_lower bS (keep_size (w := w) (g := g) (row := none) (ks HK.out))); replace D := bb D hb rfl; replace G := bb G hb rfl; replace y := bb y hb rfl; replace z := ib z hb; replace HK := kb HK hb; replace HB := hs HB hb; clear hb bS; obtain ⟨gx, gy, gz⟩ := Kd.R_slice bu.out; subst gz) | ((with_reducible refine gc 19 rfl ?_); refine gl 91 Try.func19 #[.pointer (some ⟨g, 0, none⟩), .slice gx cH.length gy] ?_; (with_reducible refine (spec_l9Rd_num.calls aF g O aG _ _ cH dQ gv w0 _ ?X ?Y ?an ?ao ?ap gw.out).mono ?_); (case X => exact iis z.out); (case Y => exact bs HB.out); (case an => exact cr bu); (case ao => exact cc bu); (case ap => exact far_slice (IsS46.own_ne z.out bu.out (by decide))); rintro e dS ⟨rfl, hi, hb, hk⟩; refine ⟨_, rfl, ?_⟩; replace D := kk D hk; replace G := kk G hk; replace y := kk y hk; replace bu := ro bu z hk; replace HK := kt HK hk; replace HB := am hb; replace z := am hi; (try clear hi hb hk); have lo := af.out; have lp := ab.out; have lq := ah.out; have lr := ag.out; have ls := ar.out; have lt := aq.out; obtain ⟨lu, lv, lw, lx, ly, lz, lA, lB⟩ := bc8 (w := dS) y.out; have lC := blk_frozen y.out; have lD := aB.out; have lE := aA.out; have lF := bz.out; have lG := bk.out; obtain ⟨lH, lI, lJ, lK, lL, lM, lN, lO⟩ := bc8 (w := dS) G.out; have lP := blk_frozen G.out))
      refine bodyPost_ret (results_cell_row rfl _ _ bj 59 #[.int .i64 I, .int .i64 aE, .int .i64 aQ, .int .i64 dQ, .int .i64 aC, .int .i64 aD, .int .i64 aK, .int .i64 aL] (0, 0) _ rfl (bp G.out rfl) Try.underlying59 rfl (by kernel_rfl)) rfl ?_
      exact ⟨eqr, iis z.out, bs HB.out, ks HK.out⟩
     ·rw [if_neg be] at H
      have gt : (ae == 2) = false := beq_eq_false_iff_ne.mpr be
      have gu : (ae != 2) = true := bne_iff_ne.mpr be
      by_cases bg : ae = 3
      ·rw [if_pos bg] at H
       have gA : (ae == 3) = true := beq_iff_eq.mpr bg
       have gB : (ae != 3) = false := bne_eq_false_iff_eq.mpr bg
       clear bg
       simp only [Option.some.injEq, Prod.mk.injEq] at H
       obtain ⟨rfl, rfl, rfl, rfl, rfl, rfl, rfl, rfl, rfl⟩ := H
       go_wp2_with (first | ((with_reducible refine gc 18 rfl ?_); refine gl 73 Try.func18 #[.pointer (some ⟨g, 0, none⟩), .int .i64 60] ?_; (with_reducible refine (spec_l9Rd_pick.calls aF g O aU 60 ae aG w0 _ ?X ?Y bP.out).mono ?_); (case X => exact iis z.out); (case Y => exact bs HB.out); rintro e dT ⟨rfl, hi, hb, hk⟩; refine ⟨_, rfl, ?_⟩; replace D := kk D hk; replace G := kk G hk; replace y := kk y hk; replace HK := kt HK hk; replace HB := am hb; replace z := am hi; (try clear hi hb hk); have lQ := af.out; have lR := ab.out; have lS := ah.out; have lT := ag.out; have lU := ar.out; have lV := aq.out; obtain ⟨lW, lX, lY, lZ, l1, l2, l3, l4⟩ := bc8 (w := dT) y.out; have l5 := blk_frozen y.out; have l6 := aB.out; have l7 := aA.out; have l8 := bz.out; have l9 := bk.out; obtain ⟨ma, mb, mc, me, mf, mg, mh, mi⟩ := bc8 (w := dT) G.out; have mj := blk_frozen G.out))
       refine bodyPost_ret (results_cell_row rfl _ _ bj 59 #[.int .i64 I, .int .i64 aE, .int .i64 aQ, .int .i64 aR, .int .i64 aC, .int .i64 aD, .int .i64 aC, .int .i64 aD] (0, 0) _ rfl (bp G.out rfl) Try.underlying59 rfl (by kernel_rfl)) rfl ?_
       exact ⟨eqr, iis z.out, bs HB.out, ks HK.out⟩
      ·rw [if_neg bg] at H
       have gA : (ae == 3) = false := beq_eq_false_iff_ne.mpr bg
       have gB : (ae != 3) = true := bne_iff_ne.mpr bg
       simp only [Option.some.injEq, Prod.mk.injEq] at H
       obtain ⟨rfl, rfl, rfl, rfl, rfl, rfl, rfl, rfl, rfl⟩ := H
       go_wp2_with (first | ((with_reducible refine gc 18 rfl ?_); refine gl 73 Try.func18 #[.pointer (some ⟨g, 0, none⟩), .int .i64 60] ?_; (with_reducible refine (spec_l9Rd_pick.calls aF g O aU 60 ae aG w0 _ ?X ?Y bP.out).mono ?_); (case X => exact iis z.out); (case Y => exact bs HB.out); rintro e dU ⟨rfl, hi, hb, hk⟩; refine ⟨_, rfl, ?_⟩; replace D := kk D hk; replace G := kk G hk; replace y := kk y hk; replace HK := kt HK hk; replace HB := am hb; replace z := am hi; (try clear hi hb hk); have ml := af.out; have mm := ab.out; have mn := ah.out; have mo := ag.out; have mq := ar.out; have mr := aq.out; obtain ⟨ms, mt, mu, mv, mw, mx, my, mz⟩ := bc8 (w := dU) y.out; have mA := blk_frozen y.out; have mB := aB.out; have mC := aA.out; have mD := bz.out; have mE := bk.out; obtain ⟨mF, mG, mH, mI, mJ, mK, mL, mM⟩ := bc8 (w := dU) G.out; have mN := blk_frozen G.out))
       refine bodyPost_ret (results_cell_row rfl _ _ bj 59 #[.int .i64 I, .int .i64 aE, .int .i64 aQ, .int .i64 aR, .int .i64 aC, .int .i64 aD, .int .i64 aK, .int .i64 aL] (0, 0) _ rfl (bp G.out rfl) Try.underlying59 rfl (by kernel_rfl)) rfl ?_
       exact ⟨eqr, iis z.out, bs HB.out, ks HK.out⟩

/-! ### spec_l2Graph: function 13 -/
def spec_l2Graph.l0 : Nat → Int → List Int → Int → List (S55) → List (S57) → Option ((List (S55)) × (List (S57)) × Int)
 | 0, _, _, _, _, _ => none
 | k + 1, D, G, I, y, z => if D > 0 then ((spec_l2Op.f k G I y z).bind fun s => ((spec_l2Do.f k y z s.1 s.2.1 s.2.2.1 s.2.2.2.1 s.2.2.2.2.1 s.2.2.2.2.2.1 s.2.2.2.2.2.2.1 s.2.2.2.2.2.2.2.1).bind fun J => (spec_l2Graph.l0 k (wrap64 (D - 1)) G s.2.2.2.2.2.2.2.2 J.1 J.2.1))) else ((spec_l2Copy.f y z).bind fun L => (some (L.1, L.2, I)))
def spec_l2Graph.f (k : Nat) (s : List Int) (z : Int) : Option ((List (S55)) × (List (S57)) × Int) := (spec_l9Rd_num.f k s z (([12, 24, 36, 48, 60, 5, 0] : List Int))).bind fun y => (spec_l2Graph.l0 k y.1 s y.2 ([] : List (S55)) ([] : List (S57)))
def spec_l2Graph.T5 : Bool × List (List Nat × List Nat) := (true, [([], []), ([], []), ([], []), ([1, 2], [1, 2]), ([0, 3, 3], [0, 3]), ([4], [4]), ([5], [5]), ([5], [5]), ([6, 4, 0, 1, 2, 3, 4, 5, 6], [6])])
def spec_l2Graph.B5 : List Nat := [0, 0, 0, 6, 15, 31, 63, 63, 127]
theorem spec_l2Graph.tab5 : rtab .any (opsOf Try.f13 5) = spec_l2Graph.T5 := by kernel_rfl
theorem spec_l2Graph.bits5 : waitsOk spec_l2Graph.T5.2 spec_l2Graph.B5 = true := by kernel_rfl
theorem spec_l2Graph.calls (k : Nat) (g : Nat) (L : List Int) (aq : Int) (r1 : List (S55)) (r2 : List (S57)) (r3 : Int) (w0 w : World) (hI : IsS46 w0 w g L aq) (hB : Below w0.heap.size w0 w) (h : spec_l2Graph.f k L aq = some (r1, r2, r3)) :
  Calls Try.prog 13 #[.pointer (some ⟨g, 0, none⟩)] w fun e w' => ∃ aO aP : Value, e = .returned (.agg #[aO, aP]) ∧ Kd.R k55 55 w' w.heap.size (fun _ => True) aO r1 ∧ Kd.R k57 57 w' w.heap.size (fun _ => True) aP r2 ∧ IsS46 w0 w' g L r3 ∧ Below w0.heap.size w0 w' ∧ KeepBut w w' g none := by
 have hu38 := Try.underlying38
 have y := am hI
 have GEg_ : Ge w0 g := ⟨IsS46.ge y.out⟩
 have HK := am (KeepBut.refl w g none)
 have HL := am hB.size
 clear hI
 have aQ := am hB.size
 have HB := am hB
 clear hB
 have H := h; unfold spec_l2Graph.f at H
 clear h
 obtain ⟨ay, az⟩ : ∃ y_ : List Int, y_ = (([12, 24, 36, 48, 60, 5, 0] : List Int)) := ⟨_, rfl⟩
 replace H : ((spec_l9Rd_num.f k L aq ay).bind fun aR => (spec_l2Graph.l0 k aR.1 L aR.2 ([] : List (S55)) ([] : List (S57)))) = some (r1, r2, r3) := by first | (rw [az]; exact H) | exact H
 have aS := am az
 clear az
 replace H := Option.bind_eq_some_iff.mp H
 obtain ⟨⟨aT, aU⟩, aV, H⟩ := H
 try dsimp -simprocs only at H
 have A2 := am aV
 clear aV
 have H' := am H
 clear H
 go_enter Try.func13, Try.ntmps13
 go_wp2_with (first | ((with_reducible refine gd 2 rfl ?_); refine bx 2 (cs := #[.slice none 0 0, .slice none 0 0]) (t := 38) ?_; intro aA hg w3 hbox hb; replace HB := hs HB hb; have z := am hbox; have bn := gwk HK hg; have bW := gew aQ bn; replace HK := kb HK hb; have aW := nlt y hg; have bo := nsy aW; replace y := ib y hb; clear hb hbox hg) | ((with_reducible refine gd 3 rfl ?_); refine bx 3 (cs := #[.slice none 0 0, .slice none 0 0]) (t := 38) ?_; intro aa hg w4 hbox hb; replace HB := hs HB hb; have s := am hbox; have br := gwk HK hg; have bX := gew aQ br; replace HK := kb HK hb; have av := nq z hg; have aw := nq' z hg; replace z := bb z hb rfl; have aB := nlt y hg; have aX := nsy aB; replace y := ib y hb; clear hb hbox hg; have bY := aw.out; have bZ := av.out; have b0 := aX.out; have b1 := aB.out; obtain ⟨bt, bu⟩ := bc2 (w := w4) s.out; have bv := blk_frozen s.out) | ((with_reducible refine gd 7 rfl ?_); refine rli (k := .i64) 3 7 ([12, 24, 36, 48, 60, 5, 0] : List Int) ?_; intro b2 w8 ar hb hg_ hnew_; clear hg_ hnew_; (first | rw [← aS.out] at ar | (simp only [Int.reduceToNat] at ar; rw [← aS.out] at ar)); have an := am (Kd.R_lower ar (keep_size (w := w) (g := g) (row := none) (ks HK.out))); replace y := am (IsS46.below (show IsS46 w0 ((w4.setCell ⟨aa, 0, none⟩ (.slice none 0 0)).setCell ⟨aa, 1, none⟩ (.slice none 0 0)) g L aq from iis y.out) hb); replace z := am (blk_below (g := aA) (o := .cells #[.slice none 0 0, .slice none 0 0] 38 (0, 0)) (bf z.out) hb); replace s := bq #[.slice none 0 0, .slice none 0 0] s hb; replace HK := kb HK hb; replace HB := hs HB hb; clear hb ar; obtain ⟨bw, bz, bA⟩ := Kd.R_slice an.out; subst bA) | ((with_reducible refine gc 19 rfl ?_); refine gl 8 Try.func19 #[.pointer (some ⟨g, 0, none⟩), .slice bw ay.length bz] ?_; (with_reducible refine (spec_l9Rd_num.calls k g L aq _ _ ay aT aU w0 _ ?ab ?ac ?ad ?au ?aC A2.out).mono ?_); (case ab => exact iis y.out); (case ac => exact bs HB.out); (case ad => exact cr an); (case au => exact cc an); (case aC => exact far_slice (IsS46.own_ne y.out an.out (by decide))); rintro e b3 ⟨rfl, hi, hb, hk⟩; refine ⟨_, rfl, ?_⟩; replace z := kk z hk; replace s := kk s hk; replace an := ro an y hk; replace HK := kt HK hk; replace HB := am hb; replace y := am hi; (try clear hi hb hk)))
 go_loopg [4] k (fun kq v4 w' => ∃ (ae : Int) (ao : Int) (J : List (S55)) (I : List (S57)) (aD : Value) (aE : Value), v4 = .int .i64 ae ∧ Aside0 (spec_l2Graph.l0 kq ae L ao J I = some (r1, r2, r3)) ∧ Aside0 (kq ≤ k) ∧ Aside0 (Kd.R k55 55 w' w.heap.size (fun _ => True) aD J) ∧ Aside0 (Kd.R k57 57 w' w.heap.size (fun _ => True) aE I) ∧ Aside0 (w'.heap[aA]? = some (.cells #[(.slice none 0 0), (.slice none 0 0)] 38 (0, 0))) ∧ Aside0 (w'.heap[aa]? = some (.cells #[aD, aE] 38 (0, 0))) ∧ Aside0 (IsS46 w0 w' g L ao) ∧ Aside0 (KeepBut w w' g none) ∧ Aside0 (Below w0.heap.size w0 w'))
 case atStart => exact ⟨(aT), (aU), (([] : List (S55))), (([] : List (S57))), (.slice none 0 0), (.slice none 0 0), eqs, H', ⟨Nat.le_refl _⟩, ⟨by first | exact Kd.R_nil _ _ _ _ _ | exact Kd.N_nil _ _ _ _ _ | exact Kd.V_nil _ _ _ _ _ | exact Kd.Q_nil _ _ _ _ _ | exact Kd.S_nil _ _ _ _ _⟩, ⟨by first | exact Kd.R_nil _ _ _ _ _ | exact Kd.N_nil _ _ _ _ _ | exact Kd.V_nil _ _ _ _ _ | exact Kd.Q_nil _ _ _ _ _ | exact Kd.S_nil _ _ _ _ _⟩, ⟨bf z.out⟩, ⟨bf s.out⟩, ⟨iis y.out⟩, ⟨ks HK.out⟩, ⟨bs HB.out⟩⟩
 case round =>
  clear H'
  try clear c1
  try clear p2
  try clear c5
  try clear c6
  try clear bt bu
  try clear bv
  obtain ⟨ae, ao, J, I, aD, aE, rfl, HA, aY, D, G, z, s, y, HK, HB⟩ := hrel
  cases gk with
  | zero => exact absurd HA.out (by simp [spec_l2Graph.l0])
  | succ k1 =>
   have H := HA.out
   clear HA
   simp only [spec_l2Graph.l0] at H
   by_cases ap : ae > 0
   ·rw [if_pos ap] at H
    have bB : decide (0 < ae) = true := decide_eq_true ap
    clear ap
    replace H := Option.bind_eq_some_iff.mp H
    obtain ⟨⟨aF, aG, aH, aI, aJ, aK, aL, aM, aZ⟩, a4, H⟩ := H
    try dsimp -simprocs only at H
    have bC := am a4
    clear a4
    replace H := Option.bind_eq_some_iff.mp H
    obtain ⟨⟨ax, aN, bD⟩, a5, H⟩ := H
    try dsimp -simprocs only at H
    have bE := am a5
    clear a5
    have H' := am H
    clear H
    try go_wp2
    replace D := rd_ D
    replace G := rd_ G
    replace z := bd z
    replace s := bd s
    replace y := am (IsS46.drew y.out)
    replace HK := am (keep_drew HK.out)
    replace HB := hd HB
    obtain ⟨af, ag, a6⟩ := Kd.R_slice D.out
    (first | subst a6 | (injection a6 with O ah T; have ai := O.symm; have aj := T.symm; clear O ah T; subst ai; subst aj))
    obtain ⟨Y, Z, a7⟩ := Kd.R_slice G.out
    (first | subst a7 | (injection a7 with O ah T; have ai := O.symm; have aj := T.symm; clear O ah T; subst ai; subst aj))
    refine sta 9 (fun w' => w'.cell? ⟨aa, 0, none⟩ = some (.slice af J.length ag) ∧ w'.cell? ⟨aa, 1, none⟩ = some (.slice Y I.length Z)) [8] ⟨cx s 0, cx s 1⟩ (fun hHeld => ?_); refine with_tabW spec_l2Graph.tab5 spec_l2Graph.bits5 (fun HT_ HW_ => ?_)
    generalize wr.drew = b4 at D G z s y HK HB hHeld ⊢
    refine pu 1 15 ?_
    refine tk 0 14 ?_
    refine tk 2 16 ?_
    refine on 3 17 (fun K hK => ?_)
    refine gs Try.func23 #[.pointer (some ⟨g, 0, none⟩), .agg #[.slice af J.length ag, .slice Y I.length Z]] ?_
    with_reducible refine (spec_l2Op.calls k1 g L ao _ _ J _ _ I aF aG aH aI aJ aK aL aM aZ w0 _ ?ab ?ac ?ad ?au ?aC ?bF bC.out).mono ?_
    (case ab => exact iis y.out)
    (case ac => exact bs HB.out)
    (case ad => exact Kd.C_foot_own (IsS46.apart (show IsS46 w0 _ g L ao from iis y.out) (rl D.out) (by decide)) (fun _ h_ => h_.2))
    (case au => exact cc D)
    (case aC => exact Kd.C_foot_own (IsS46.apart (show IsS46 w0 _ g L ao from iis y.out) (rl G.out) (by decide)) (fun _ h_ => h_.2))
    (case bF => exact cc G)
    rintro e b5 ⟨rfl, hi, hb, hk⟩
    refine ⟨_, rfl, ?_⟩
    replace D := ro D y hk
    replace G := ro G y hk
    replace z := kk z hk
    replace s := kk s hk
    replace HK := kt HK hk
    replace HB := am hb
    replace y := am hi
    (try clear hb)
    (try clear hb2)
    (try clear hk)
    (try clear hi)
    refine hK.out _ _ ⟨cx s 0, cx s 1⟩ (fun hHeld => ?_)
    clear hK K
    refine nrm 17 ?_
    refine on 4 18 (fun K hK => ?_)
    refine gs Try.func22 #[.agg #[.slice af J.length ag, .slice Y I.length Z], .agg #[.int .i64 aF, .int .i64 aG, .int .i64 aH, .int .i64 aI, .int .i64 aJ, .int .i64 aK, .int .i64 aL, .int .i64 aM]] ?_
    with_reducible refine (spec_l2Do.calls k1 (fun k_ => some k_ = (.slice af J.length ag : Value).ownBlock) (.slice af J.length ag) J (fun k_ => some k_ = (.slice Y I.length Z : Value).ownBlock) (.slice Y I.length Z) I aF aG aH aI aJ aK aL aM ax aN bD w0 _ ?ab ?ac ?ad bE.out).mono ?_
    (case ab => exact bs HB.out)
    (case ac => exact Kd.R_lower (Kd.R_tight rfl D.out) HL.out)
    (case ad => exact Kd.R_lower (Kd.R_tight rfl G.out) HL.out)
    rintro e a8 ⟨b6, b7, rfl, ak, al, hb, hkp⟩
    refine ⟨_, rfl, ?_⟩
    replace z := am (blk_kept (bf z.out) hkp (fun hs_ => Or.elim hs_ (fun e_ => (fun e_ => (Kd.R_ne D.out z.out (by decide)) e_) e_) (fun e_ => (fun e_ => (Kd.R_ne G.out z.out (by decide)) e_) e_)))
    replace s := am (blk_kept (bf s.out) hkp (fun hs_ => Or.elim hs_ (fun e_ => (fun e_ => (Kd.R_ne D.out s.out (by decide)) e_) e_) (fun e_ => (fun e_ => (Kd.R_ne G.out s.out (by decide)) e_) e_)))
    replace y := am (IsS46.kept (iis y.out) hkp (fun hs_ => Or.elim hs_ (fun e_ => (fun e_ => (IsS46.own_ne y.out D.out (by decide)) e_) e_) (fun e_ => (fun e_ => (IsS46.own_ne y.out G.out (by decide)) e_) e_)))
    have a9 := am (Kd.R_mono (ok' := fun k_ => True) (Kd.R_raise (d := k55) (b := w0.heap.size) (b' := w.heap.size) (fun _ _ _ _ h_ => h_) ak (fun k_ e_ => Or.elim (ak.1 k_ e_) (fun hs_ => Or.elim hs_ (fun e_ => (fun e_ => Kd.R_base D.out k_ e_.symm) e_) (fun e_ => (fun e_ => Kd.R_base G.out k_ e_.symm) e_)) (fun hn_ => Nat.le_trans (keep_size (w := w) (g := g) (row := none) (ks HK.out)) hn_))) (fun k_ hk_ => trivial))
    have ba := am (Kd.R_mono (ok' := fun k_ => True) (Kd.R_raise (d := k57) (b := w0.heap.size) (b' := w.heap.size) (fun _ _ _ _ h_ => h_) al (fun k_ e_ => Or.elim (al.1 k_ e_) (fun hs_ => Or.elim hs_ (fun e_ => (fun e_ => Kd.R_base D.out k_ e_.symm) e_) (fun e_ => (fun e_ => Kd.R_base G.out k_ e_.symm) e_)) (fun hn_ => Nat.le_trans (keep_size (w := w) (g := g) (row := none) (ks HK.out)) hn_))) (fun k_ hk_ => trivial))
    replace HK := am (Kept.keepG (ks HK.out) hkp (fun k_ hs_ => Or.elim hs_ (fun e_ => (fun e_ => .inr (Kd.R_base D.out k_ e_.symm)) e_) (fun e_ => (fun e_ => .inr (Kd.R_base G.out k_ e_.symm)) e_)))
    replace HB := am hb
    clear D G
    (try clear hb)
    (try clear hkp)
    (try clear ak)
    (try clear al)
    obtain ⟨bc, be, bg⟩ := Kd.R_slice a9.out
    (first | subst bg | (injection bg with O ah T; have ai := O.symm; have aj := T.symm; clear O ah T; subst ai; subst aj))
    obtain ⟨bG, bH, bh⟩ := Kd.R_slice ba.out
    (first | subst bh | (injection bh with O ah T; have ai := O.symm; have aj := T.symm; clear O ah T; subst ai; subst aj))
    refine hK.out _ _ ⟨cx s 0, cx s 1⟩ (fun hHeld => ?_)
    clear hK K
    refine nrm 18 ?_
    refine pu 5 13 ?_
    refine pu 6 19 ?_
    refine pu 7 20 ?_
    refine la0 8 (fun K hK => ?_)
    have b8 : a8.cell? ⟨aa, 0, none⟩ = some (.slice af J.length ag) := cx s 0
    have b9 := blk_frozen s.out 0
    have ce := av.out
    have cf := aw.out
    have cg : a8.cell? ⟨aa, 1, none⟩ = some (.slice Y I.length Z) := cx s 1
    have ch := blk_frozen s.out 1
    have ci := av.out
    have cj := aw.out
    refine sk ?_
    refine hK.out _ _ ?_
    clear hK K
    refine dn ?_
    try go_wp2
    go_roundg k1
    case measure => have := aY.out; omega
    case rel => exact ⟨(wrap64 (ae - 1)), (aZ), (ax), (aN), (.slice bc ax.length be), (.slice bG aN.length bH), eqs, H', ⟨by have := aY.out; omega⟩, ⟨Kd.R_mono (rt a9.out s.out (by decide)) (fun _ hk => trivial)⟩, ⟨Kd.R_mono (rt ba.out s.out (by decide)) (fun _ hk => trivial)⟩, ⟨bf z.out⟩, ⟨by (with_reducible repeat (first | refine blk_drewN ?_ _ | refine blk_drew ?_ | refine blk_alloc ?_ _)); refine blk_put (cs := #[.slice bc ax.length be, .slice Y I.length Z]) ?_ 1 _ rfl; (with_reducible repeat (first | refine blk_drewN ?_ _ | refine blk_drew ?_ | refine blk_alloc ?_ _)); refine blk_put (cs := #[.slice af J.length ag, .slice Y I.length Z]) ?_ 0 _ rfl; exact bf s.out⟩, ⟨iis y.out⟩, ⟨ks HK.out⟩, ⟨bs HB.out⟩⟩
   ·rw [if_neg ap] at H
    have bB : decide (0 < ae) = false := decide_eq_false ap
    clear ap
    replace H := Option.bind_eq_some_iff.mp H
    obtain ⟨⟨bi, bj⟩, bk, H⟩ := H
    try dsimp -simprocs only at H
    have bI := am bk
    clear bk
    simp only [Option.some.injEq, Prod.mk.injEq] at H
    obtain ⟨rfl, rfl, rfl⟩ := H
    have ck := aw.out
    have cl := av.out
    have cm := aX.out
    have cn := aB.out
    obtain ⟨co, cp⟩ := bc2 (w := wr) s.out
    have ct := blk_frozen s.out
    obtain ⟨bJ, bK, bL⟩ := Kd.R_slice D.out
    subst bL
    obtain ⟨bM, bN, bO⟩ := Kd.R_slice G.out
    subst bO
    go_wp2_with (first | ((with_reducible refine gc 24 rfl ?_); refine gl 22 Try.func24 #[.agg #[.slice bJ J.length bK, .slice bM I.length bN]] ?_; (with_reducible refine (spec_l2Copy.calls _ _ J _ _ I bi bj _ ?ab ?ac ?ad ?au bI.out).mono ?_); (case ab => exact cr D); (case ac => exact cc D); (case ad => exact cr G); (case au => exact cc G); rintro e bP ⟨cu, cv, rfl, ak, al, hb⟩; refine ⟨_, rfl, ?_⟩; have bl := am (Kd.R_lower (Kd.R_new' ak (rk D)) (keep_size (w := w) (g := g) (row := none) (ks HK.out))); replace D := re D ak hb; have bm := am (Kd.R_lower (Kd.R_new' al (rk G)) (keep_size (w := w) (g := g) (row := none) (ks HK.out))); replace G := re G al hb; replace z := bb z hb rfl; replace s := bb s hb rfl; replace y := ib y hb; replace HK := kb HK hb; replace HB := hs HB hb; (try clear ak al hb); obtain ⟨bQ, bR, bS⟩ := Kd.R_slice bl.out; subst bS; have cy := bo.out; have cz := aW.out; obtain ⟨cA, cB⟩ := bc2 (w := bP) z.out; have cC := blk_frozen z.out; obtain ⟨bT, bU, bV⟩ := Kd.R_slice bm.out; subst bV))
    refine bodyPost_ret (results_cell_row rfl _ _ aA 38 #[.slice bQ bi.length bR, .slice bT bj.length bU] (0, 0) _ rfl (bp z.out rfl) Try.underlying38 rfl (by kernel_rfl)) rfl ?_
    exact ⟨_, _, eqr, Kd.R_mono (rt bl.out z.out (by decide)) (fun _ hk => trivial), Kd.R_mono (rt bm.out z.out (by decide)) (fun _ hk => trivial), iis y.out, bs HB.out, ks HK.out⟩

end Go.Proofs.Ytkbamcicbofjbaa.QFnStoreNarrow
