/- Contracts of the Go functions that this law reaches: each does what its plain Lean function says. No condition. -/
import Derived.Test.YtkbamcicbofjbaaQFnStoreNarrowx0
import Derived.Test.YtkbamcicbofjbaaQFnStoreNarrowx4
import Derived.Test.YtkbamcicbofjbaaQFnStoreNarrowx5
import Derived.Test.YtkbamcicbofjbaaQFnStoreNarrowx14
namespace Go.Proofs.Ytkbamcicbofjbaa.QFnStoreNarrow
open Go.RowKit Go.Proofs.YtkbamcicbofjbaaW.PrintWords Go.Proofs.YtkbamcicbofjbaaW.PrintLast Go.Proofs.YtkbamcicbofjbaaW.PrintMore Go.Proofs.Ytkbamcicbofjbaa.Bl
attribute [local go_sem] max2_int min2_int max_two min_two max_three min_three max_four min_four   -- for this text's walks alone
set_option linter.unusedVariables false
set_option linter.unusedSimpArgs false
set_option maxHeartbeats 8000000
set_option maxRecDepth 100000

/-! ### spec_l2Edge: function 41 -/
mutual
def spec_l2Edge.j0 : Nat → Bool → List Int → Int → List (S55) → List (S57) → Int → Int → Int → Int → Option (Int × Int × Int × Int × Int × Int)
 | 0, _, _, _, _, _, _, _, _, _ => none
 | k + 1, I, D, G, s, T, J, L, M, O => if I = true then ((spec_l9Rd_pick.f k D G (s.length : Int)).bind fun y => (if 0 ≤ y.1 then (if y.1 < (s.length : Int) then ((spec_l9Rd_pick.f k D y.2 (s.length : Int)).bind fun z => (if 0 ≤ z.1 then (if z.1 < (s.length : Int) then (spec_l2Edge.j1 k D z.2 ((rd_T55 s y.1).f0) ((rd_T55 s y.1).f1) ((rd_T55 s z.1).f0) ((rd_T55 s z.1).f1)) else (none)) else (none))) else (none)) else (none))) else (spec_l2Edge.j1 k D G J L M O)
def spec_l2Edge.j1 : Nat → List Int → Int → Int → Int → Int → Int → Option (Int × Int × Int × Int × Int × Int)
 | 0, _, _, _, _, _, _ => none
 | k + 1, J, L, s, z, y, D => (spec_l1Mix.f k s y false).bind fun M => ((spec_l9Rd_num.f k J L (([0, 0, 0, 1, 2, 4] : List Int))).bind fun G => ((spec_l1Mix.f k M G.1 false).bind fun I => ((spec_l2Code.f s z).bind fun O => ((spec_l2Code.f y D).bind fun T => (if O > T then (some (I, y, D, s, z, G.2)) else (some (I, s, z, y, D, G.2)))))))
end
def spec_l2Edge.f (k : Nat) (y : List Int) (J : Int) (D : List (S55)) (G : List (S57)) : Option (Int × Int × Int × Int × Int × Int) := (spec_l2Node.f k y J).bind fun z => ((spec_l2Node.f k y z.2.2).bind fun s => (if (D.length : Int) > 1 then ((spec_l9Rd_pick.f k y s.2.2 8).bind fun I => (spec_l2Edge.j0 k (decide (I.1 > 0)) y I.2 D G z.1 z.2.1 s.1 s.2.1)) else (spec_l2Edge.j0 k false y s.2.2 D G z.1 z.2.1 s.1 s.2.1)))
def spec_l2Edge.T4 : Bool × List (List Nat × List Nat) := (true, [([], []), ([0], [0]), ([], []), ([], []), ([3], [3]), ([4], [4]), ([2, 5], [2, 5]), ([1, 6], [1, 6]), ([7], [7]), ([8, 6, 0, 1, 2, 3, 4, 5, 6, 7, 8], [8])])
def spec_l2Edge.B4 : List Nat := [0, 1, 0, 0, 8, 24, 60, 127, 255, 511]
theorem spec_l2Edge.tab4 : rtab .any (opsOf Try.f41 4) = spec_l2Edge.T4 := by kernel_rfl
theorem spec_l2Edge.bits4 : waitsOk spec_l2Edge.T4.2 spec_l2Edge.B4 = true := by kernel_rfl
def spec_l2Edge.T5 : Bool × List (List Nat × List Nat) := (true, [([], []), ([0], [0]), ([], []), ([], []), ([3], [3]), ([4], [4]), ([2, 5], [2, 5]), ([1, 6], [1, 6]), ([7], [7]), ([8, 6, 0, 1, 2, 3, 4, 5, 6, 7, 8], [8])])
def spec_l2Edge.B5 : List Nat := [0, 1, 0, 0, 8, 24, 60, 127, 255, 511]
theorem spec_l2Edge.tab5 : rtab .any (opsOf Try.f41 5) = spec_l2Edge.T5 := by kernel_rfl
theorem spec_l2Edge.bits5 : waitsOk spec_l2Edge.T5.2 spec_l2Edge.B5 = true := by kernel_rfl
theorem spec_l2Edge.calls (k : Nat) (g : Nat) (T : List Int) (bG : Int) (aD : Option Addr) (aq : Nat) (J : List (S55)) (ar : Option Addr) (au : Nat) (ae : List (S57)) (r1 : Int) (r2 : Int) (r3 : Int) (r4 : Int) (r5 : Int) (r6 : Int) (w0 w : World) (hI : IsS46 w0 w g T bG) (hB : Below w0.heap.size w0 w) (b5 : ∀ W_, KeepBut w W_ g none → Kd.C k55 W_ aD J.length J) (b6 : J.length ≤ aq) (b7 : ∀ W_, KeepBut w W_ g none → Kd.C k57 W_ ar ae.length ae) (b8 : ae.length ≤ au) (h : spec_l2Edge.f k T bG J ae = some (r1, r2, r3, r4, r5, r6)) :
  Calls Try.prog 41 #[.pointer (some ⟨g, 0, none⟩), .agg #[.slice aD J.length aq, .slice ar ae.length au]] w fun e w' => e = .returned (.agg #[.int .i64 r1, .int .i64 r2, .int .i64 r3, .int .i64 r4, .int .i64 r5]) ∧ IsS46 w0 w' g T r6 ∧ Below w0.heap.size w0 w' ∧ KeepBut w w' g none := by
 have hu38 := Try.underlying38
 have hu57 := Try.underlying57
 have hu55 := Try.underlying55
 have X := am b5
 have dC := am b6
 clear b5 b6
 have dD := am b7
 have dE := am b8
 clear b7 b8
 have G := am hI
 have GEg_ : Ge w0 g := ⟨IsS46.ge G.out⟩
 have HK := am (KeepBut.refl w g none)
 have HL := am hB.size
 clear hI
 have bl := am hB.size
 have HB := am hB
 clear hB
 have H := h; unfold spec_l2Edge.f at H
 clear h
 replace H := Option.bind_eq_some_iff.mp H
 obtain ⟨⟨aH, aE, b9⟩, ce, H⟩ := H
 try dsimp -simprocs only at H
 have A3 := am ce
 clear ce
 replace H := Option.bind_eq_some_iff.mp H
 obtain ⟨⟨aA, aB, bH⟩, cf, H⟩ := H
 try dsimp -simprocs only at H
 have A4 := am cf
 clear cf
 have bI := am H
 clear H
 go_enter Try.func41, Try.ntmps41
 go_upto_region 3 with (first | ((with_reducible refine gd 3 rfl ?_); refine bx 3 (cs := #[.slice aD J.length aq, .slice ar ae.length au]) (t := 38) ?_; intro ax hg w6 hbox hb; replace HB := hs HB hb; have z := am hbox; have cZ := gwk HK hg; have dF := gew bl cZ; replace HK := kb HK hb; have bJ := nlt G hg; have cg := nsy bJ; replace G := ib G hb; clear hb hbox hg) | ((with_reducible refine gd 4 rfl ?_); refine bx 4 (cs := #[.int .i64 0, .int .i64 0, .int .i64 0, .int .i64 0, .int .i64 0]) (t := 57) ?_; intro aF hg w7 hbox hb; replace HB := hs HB hb; have I := am hbox; have c0 := gwk HK hg; have dG := gew bl c0; replace HK := kb HK hb; have bm := nq z hg; have bn := nq' z hg; replace z := bb z hb rfl; have bK := nlt G hg; have ch := nsy bK; replace G := ib G hb; clear hb hbox hg) | ((with_reducible refine gc 40 rfl ?_); refine gl 9 Try.func40 #[.pointer (some ⟨g, 0, none⟩)] ?_; (with_reducible refine (spec_l2Node.calls k g T bG aH aE b9 w0 _ ?ao ?ap A3.out).mono ?_); (case ao => exact iis G.out); (case ap => exact bs HB.out); rintro e w8 ⟨rfl, hi, hb, hk⟩; refine ⟨_, rfl, ?_⟩; replace z := kk z hk; replace I := kk I hk; replace HK := kt HK hk; replace HB := am hb; replace G := am hi; (try clear hi hb hk)) | ((with_reducible refine gd 5 rfl ?_); refine bx 5 (cs := #[.int .i64 0, .int .i64 0]) (t := 55) ?_; intro L hg w9 hbox hb; replace HB := hs HB hb; have y := am hbox; have aY := gwk HK hg; have dH := gew bl aY; replace HK := kb HK hb; have ay := nq z hg; have aL := nq' z hg; replace z := bb z hb rfl; have aZ := nq I hg; have a4 := nq' I hg; replace I := bb I hb rfl; have bo := nlt G hg; have bL := nsy bo; replace G := ib G hb; clear hb hbox hg; have dI := aL.out; have dJ := ay.out; have dK := a4.out; have dL := aZ.out; have dM := bL.out; have dN := bo.out; obtain ⟨ci, cj⟩ := bc2 (w := w9) y.out; have ck := blk_frozen y.out) | ((with_reducible refine gc 40 rfl ?_); refine gl 11 Try.func40 #[.pointer (some ⟨g, 0, none⟩)] ?_; (with_reducible refine (spec_l2Node.calls k g T b9 aA aB bH w0 _ ?ao ?ap A4.out).mono ?_); (case ao => exact iis G.out); (case ap => exact bs HB.out); rintro e dO ⟨rfl, hi, hb, hk⟩; refine ⟨_, rfl, ?_⟩; replace z := kk z hk; replace I := kk I hk; replace y := kp #[.int .i64 aH, .int .i64 aE] y hk; replace HK := kt HK hk; replace HB := am hb; replace G := am hi; (try clear hi hb hk)) | ((with_reducible refine gd 6 rfl ?_); refine bx 6 (cs := #[.int .i64 0, .int .i64 0]) (t := 55) ?_; intro aa hg bM hbox hb; replace HB := hs HB hb; have D := am hbox; have a5 := gwk HK hg; have dP := gew bl a5; replace HK := kb HK hb; have az := nq z hg; have aM := nq' z hg; replace z := bb z hb rfl; have a6 := nq I hg; have a7 := nq' I hg; replace I := bb I hb rfl; have aN := nq y hg; have aO := nq' y hg; replace y := bb y hb rfl; have br := nlt G hg; have bN := nsy br; replace G := ib G hb; clear hb hbox hg; have dQ := aM.out; have dR := az.out; have dS := a7.out; have dT := a6.out; have dU := aO.out; have dV := aN.out; have dW := bN.out; have dX := br.out; obtain ⟨cl, cm⟩ := bc2 (w := bM) D.out; have cn := blk_frozen D.out))
 (try simp only [Act.put, List.setIfInBounds_toArray, List.set_cons_zero, List.set_cons_succ])
 go_cut [20] (fun c5 wc => ∃ (kq : Nat) (bt : Bool) (aP : Int), c5 = .bool bt ∧ Aside0 (spec_l2Edge.j0 kq bt T aP J ae aH aE aA aB = some (r1, r2, r3, r4, r5, r6)) ∧ Aside0 (kq ≤ k) ∧ Aside0 (wc.heap[ax]? = some (.cells #[(.slice aD J.length aq), (.slice ar ae.length au)] 38 (0, 0))) ∧ Aside0 (wc.heap[aF]? = some (.cells #[.int .i64 0, .int .i64 0, .int .i64 0, .int .i64 0, .int .i64 0] 57 (0, 0))) ∧ Aside0 (wc.heap[L]? = some (.cells #[.int .i64 aH, .int .i64 aE] 55 (0, 0))) ∧ Aside0 (wc.heap[aa]? = some (.cells #[.int .i64 aA, .int .i64 aB] 55 (0, 0))) ∧ Aside0 (IsS46 w0 wc g T aP) ∧ Aside0 (KeepBut w wc g none) ∧ Aside0 (Below w0.heap.size w0 wc))
 case first =>
  have H := bI.out
  clear bI
  by_cases aI : (J.length : Int) > 1
  ·rw [if_pos aI] at H
   have aQ : decide (1 < (J.length : Int)) = true := decide_eq_true aI
   have bO : decide (1 < J.length) = true := decide_eq_true (by omega)
   clear aI
   (first | rw [aQ] | (simp only [i64_w, i32_w]; rw [aQ]) | skip)
   replace H := Option.bind_eq_some_iff.mp H
   obtain ⟨⟨co, cp⟩, ct, H⟩ := H
   try dsimp -simprocs only at H
   have c6 := am ct
   clear ct
   have H' := am H
   clear H
   have dY := bm.out
   have dZ := bn.out
   have d0 := ay.out
   have d1 := aL.out
   have d2 := az.out
   have d3 := aM.out
   have d4 := cg.out
   have d5 := bJ.out
   obtain ⟨cu, cv⟩ := bc2 (w := bM) z.out
   have cy := blk_frozen z.out
   go_wp2_with (first | (go_at_call 18; (with_reducible refine (spec_l9Rd_pick.calls k g T bH 8 co cp w0 _ ?ao ?ap c6.out).mono ?_); (case ao => exact iis G.out); (case ap => exact bs HB.out); rintro e d6 ⟨rfl, hi, hb, hk⟩; replace z := kk z hk; replace I := kk I hk; replace y := kk y hk; replace D := kp #[.int .i64 aA, .int .i64 aB] D hk; replace HK := kt HK hk; replace HB := am hb; replace G := am hi; (try clear hi hb hk)))
   go_meet
   case rel => exact ⟨_, (decide (co > 0)), (cp), eqs, H', ⟨by first | omega | exact Nat.le_refl _⟩, ⟨bf z.out⟩, ⟨bf I.out⟩, ⟨bf y.out⟩, ⟨bf D.out⟩, ⟨iis G.out⟩, ⟨ks HK.out⟩, ⟨bs HB.out⟩⟩
  ·rw [if_neg aI] at H
   have aQ : decide (1 < (J.length : Int)) = false := decide_eq_false aI
   have bO : decide (1 < J.length) = false := decide_eq_false (by omega)
   clear aI
   (first | rw [aQ] | (simp only [i64_w, i32_w]; rw [aQ]) | skip)
   have H' := am H
   clear H
   have d7 := bm.out
   have d8 := bn.out
   have d9 := ay.out
   have ea := aL.out
   have eb := az.out
   have ec := aM.out
   have ed := cg.out
   have ee := bJ.out
   obtain ⟨cz, cA⟩ := bc2 (w := bM) z.out
   have cB := blk_frozen z.out
   go_wp2
   go_meet
   case rel => exact ⟨_, (false), (bH), eqs, H', ⟨by first | omega | exact Nat.le_refl _⟩, ⟨bf z.out⟩, ⟨bf I.out⟩, ⟨bf y.out⟩, ⟨by (with_reducible repeat (first | refine blk_drewN ?_ _ | refine blk_drew ?_ | refine blk_alloc ?_ _)); refine blk_put (cs := #[.int .i64 aA, .int .i64 0]) ?_ 1 _ rfl; (with_reducible repeat (first | refine blk_drewN ?_ _ | refine blk_drew ?_ | refine blk_alloc ?_ _)); refine blk_put (cs := #[.int .i64 0, .int .i64 0]) ?_ 0 _ rfl; exact bf D.out⟩, ⟨iis G.out⟩, ⟨ks HK.out⟩, ⟨bs HB.out⟩⟩
 case rest =>
  clear bI
  try clear c1
  try clear c2
  try clear p2
  try clear c3
  try clear c4
  try clear c7
  try clear c8
  try clear c9
  try clear da
  try clear db
  try clear dc
  try clear dd
  try clear aI
  try clear aQ
  try clear bO
  try clear de
  try clear df
  try clear dg
  try clear dh
  try clear di
  try clear dj
  try clear dk
  try clear dl
  try clear ci cj
  try clear cl cm
  try clear cu cv
  try clear cz cA
  try clear ck
  try clear cn
  try clear cy
  try clear cB
  obtain ⟨kq, bt, aP, rfl, HA, cC, z, I, y, D, G, HK, HB⟩ := hcut
  cases kq with
  | zero => exact absurd HA.out (by simp [spec_l2Edge.j0])
  | succ aR =>
   have H := HA.out
   clear HA
   simp only [spec_l2Edge.j0] at H
   have bP := am H
   clear H
   go_upto_if 20 with (fail)
   go_cut [] (fun wc => ∃ (kq : Nat) (aJ : Int) (Y : Int) (ac : Int) (Z : Int) (ad : Int), Aside0 (spec_l2Edge.j1 kq T aJ Y ac Z ad = some (r1, r2, r3, r4, r5, r6)) ∧ Aside0 (kq ≤ aR) ∧ Aside0 (wc.heap[ax]? = some (.cells #[(.slice aD J.length aq), (.slice ar ae.length au)] 38 (0, 0))) ∧ Aside0 (wc.heap[aF]? = some (.cells #[.int .i64 0, .int .i64 0, .int .i64 0, .int .i64 0, .int .i64 0] 57 (0, 0))) ∧ Aside0 (wc.heap[L]? = some (.cells #[.int .i64 Y, .int .i64 ac] 55 (0, 0))) ∧ Aside0 (wc.heap[aa]? = some (.cells #[.int .i64 Z, .int .i64 ad] 55 (0, 0))) ∧ Aside0 (IsS46 w0 wc g T aJ) ∧ Aside0 (KeepBut w wc g none) ∧ Aside0 (Below w0.heap.size w0 wc))
   case first =>
    have H := bP.out
    clear bP
    by_cases a8 : bt = true
    ·subst a8
     replace H : ((spec_l9Rd_pick.f aR T aP (J.length : Int)).bind fun a9 => (if 0 ≤ a9.1 then (if a9.1 < (J.length : Int) then ((spec_l9Rd_pick.f aR T a9.2 (J.length : Int)).bind fun ba => (if 0 ≤ ba.1 then (if ba.1 < (J.length : Int) then (spec_l2Edge.j1 aR T ba.2 ((rd_T55 J a9.1).f0) ((rd_T55 J a9.1).f1) ((rd_T55 J ba.1).f0) ((rd_T55 J ba.1).f1)) else (none)) else (none))) else (none)) else (none))) = some (r1, r2, r3, r4, r5, r6) := by rw [if_pos rfl] at H; exact H
     replace H := Option.bind_eq_some_iff.mp H
     obtain ⟨⟨M, bQ⟩, cD, H⟩ := H
     try dsimp -simprocs only at H
     have dm := am cD
     clear cD
     by_cases bc : 0 ≤ M
     ·rw [if_pos bc] at H
      have bR : decide (0 ≤ M) = true := decide_eq_true bc
      clear bc
      (first | rw [bR] | (simp only [i64_w, i32_w]; rw [bR]) | skip)
      by_cases be : M < (J.length : Int)
      ·rw [if_pos be] at H
       have dp : decide (M < (J.length : Int)) = true := decide_eq_true be
       clear be
       replace H := Option.bind_eq_some_iff.mp H
       obtain ⟨⟨ab, cE⟩, cF, H⟩ := H
       try dsimp -simprocs only at H
       have dq := am cF
       clear cF
       by_cases bg : 0 ≤ ab
       ·rw [if_pos bg] at H
        have dr : decide (0 ≤ ab) = true := decide_eq_true bg
        clear bg
        by_cases bh : ab < (J.length : Int)
        ·rw [if_pos bh] at H
         have dt : decide (ab < (J.length : Int)) = true := decide_eq_true bh
         clear bh
         have H' := am H
         clear H
         try go_wp2
         replace z := bd z
         replace I := bd I
         replace y := bd y
         replace D := bd D
         replace G := am (IsS46.drew G.out)
         replace HK := am (keep_drew HK.out)
         replace HB := hd HB
         have bu : 0 ≤ (M : Int) := oda
         have bv : M < (J.length : Int) := oda
         obtain ⟨af, du, bw, bz⟩ := at_T55 (Kd.C_foot_now X.out HK.out) M bu bv
         have ef := bz
         have eg := bw
         cases du
         have bS := (show (⟨(af.add ((M).toNat * 2)).block, (af.add ((M).toNat * 2)).off + 1, none⟩ : Addr).block ≠ g from by first | (rw [add_block]; exact Kd.foot_ne X.out (by omega) (by decide)) | (show (Addr.add _ _).block ≠ _; rw [add_block]; exact Kd.foot_ne X.out (by omega) (by decide)) | exact Kd.foot_ne X.out (by omega) (by decide) | (dsimp only; exact Kd.foot_ne X.out (by omega) (by decide)))
         have cG := (Kd.foot_lt X.out (by omega) (by decide))
         have bT := (show ((af.add ((M).toNat * 2)) : Addr).block ≠ g from by first | (rw [add_block]; exact Kd.foot_ne X.out (by omega) (by decide)) | (show (Addr.add _ _).block ≠ _; rw [add_block]; exact Kd.foot_ne X.out (by omega) (by decide)) | exact Kd.foot_ne X.out (by omega) (by decide) | (dsimp only; exact Kd.foot_ne X.out (by omega) (by decide)))
         have cH := (Kd.foot_lt X.out (by omega) (by decide))
         replace bu := eq_true bu
         replace bv := eq_true bv
         refine sta 10 (fun w' => w'.cell? ⟨ax, 0, none⟩ = some (.slice (some af) J.length aq) ∧ w'.cell? ⟨ax, 1, none⟩ = some (.slice ar ae.length au) ∧ w'.cell? (af.add ((M).toNat * 2)) = some (.int .i64 ((rd_T55 J M).f0)) ∧ w'.cell? ⟨(af.add ((M).toNat * 2)).block, (af.add ((M).toNat * 2)).off + 1, none⟩ = some (.int .i64 ((rd_T55 J M).f1))) [] ⟨cx z 0, cx z 1, bw, bz⟩ (fun hHeld => ?_); refine with_tabW spec_l2Edge.tab4 spec_l2Edge.bits4 (fun HT_ HW_ => ?_)
         generalize wc.drew = eh at z I y D G HK HB bw bz hHeld ⊢
         refine pu 0 21 ?_
         refine pu 2 23 ?_
         refine pu 3 24 ?_
         refine tk 1 22 ?_
         refine tk 4 25 ?_
         refine pu 5 26 ?_
         refine on 6 27 (fun K hK => ?_)
         refine gs Try.func18 #[.pointer (some ⟨g, 0, none⟩), .int .i64 (J.length : Int)] ?_
         with_reducible refine (spec_l9Rd_pick.calls aR g T aP (J.length : Int) M bQ w0 _ ?ao ?ap dm.out).mono ?_
         (case ao => exact iis G.out)
         (case ap => exact bs HB.out)
         rintro e aC ⟨rfl, hi, hb, hk⟩
         have bU := keep_cell hk (hHeld.2.2.1) (by first | (rw [add_block]; exact bT) | (show (Addr.add _ _).block ≠ _; rw [add_block]; exact bT) | exact bT)
         have bV := keep_cell hk (hHeld.2.2.2) (by first | (rw [add_block]; exact bS) | (show (Addr.add _ _).block ≠ _; rw [add_block]; exact bS) | exact bS)
         refine ⟨_, rfl, ?_⟩
         replace z := kk z hk
         replace I := kk I hk
         replace y := kk y hk
         replace D := kk D hk
         replace HK := kt HK hk
         replace HB := am hb
         replace G := am hi
         (try clear hb)
         (try clear hb2)
         (try clear hk)
         (try clear hi)
         refine hK.out _ _ ⟨cx z 0, cx z 1, bU, bV⟩ (fun hHeld => ?_)
         clear hK K
         refine nrm 27 ?_
         refine pu 7 28 ?_
         refine tk 8 29 ?_
         refine on0 9 (fun K hK => ?_)
         have ei : aC.cell? ⟨L, 0, none⟩ = some (.int .i64 aH) := cx y 0
         have ej := blk_frozen y.out 0
         have ek := ay.out
         have el := aZ.out
         have em := aO.out
         have en := aL.out
         have eo := a4.out
         have ep := aN.out
         have eq : aC.cell? ⟨L, 1, none⟩ = some (.int .i64 aE) := cx y 1
         have er := blk_frozen y.out 1
         have es := ay.out
         have et := aZ.out
         have eu := aO.out
         have ev := aL.out
         have ew := a4.out
         have ex := aN.out
         refine sk ?_
         refine hK.out _ _ ⟨((cell_far (p := ⟨L, _, none⟩) ay.out _).trans (((cell_far (p := ⟨L, _, none⟩) ay.out _).trans (hHeld.1)))), ((cell_far (p := ⟨L, _, none⟩) ay.out _).trans (((cell_far (p := ⟨L, _, none⟩) ay.out _).trans (hHeld.2.1)))), ((cell_far (p := ⟨L, _, none⟩) (nl2 cH aY) _).trans (((cell_far (p := ⟨L, _, none⟩) (nl2 cH aY) _).trans (hHeld.2.2.1)))), ((cell_far (p := ⟨L, _, none⟩) (nl2 cG aY) _).trans (((cell_far (p := ⟨L, _, none⟩) (nl2 cG aY) _).trans (hHeld.2.2.2))))⟩ (fun hHeld => ?_)
         clear hK K
         refine dn ?_
         try go_wp2
         have ag : Aside0 (((aC.setCell ⟨L, 0, none⟩ (.int .i64 ((rd_T55 J M).f0))).setCell ⟨L, 1, none⟩ (.int .i64 ((rd_T55 J M).f1))).heap[ax]? = some (.cells #[.slice (some af) J.length aq, .slice ar ae.length au] 38 (0, 0))) := ⟨bf z.out⟩
         have ah : Aside0 (((aC.setCell ⟨L, 0, none⟩ (.int .i64 ((rd_T55 J M).f0))).setCell ⟨L, 1, none⟩ (.int .i64 ((rd_T55 J M).f1))).heap[aF]? = some (.cells #[.int .i64 0, .int .i64 0, .int .i64 0, .int .i64 0, .int .i64 0] 57 (0, 0))) := ⟨bf I.out⟩
         have ai : Aside0 (((aC.setCell ⟨L, 0, none⟩ (.int .i64 ((rd_T55 J M).f0))).setCell ⟨L, 1, none⟩ (.int .i64 ((rd_T55 J M).f1))).heap[L]? = some (.cells #[.int .i64 ((rd_T55 J M).f0), .int .i64 ((rd_T55 J M).f1)] 55 (0, 0))) := ⟨by (with_reducible repeat (first | refine blk_drewN ?_ _ | refine blk_drew ?_ | refine blk_alloc ?_ _)); refine blk_put (cs := #[.int .i64 ((rd_T55 J M).f0), .int .i64 aE]) ?_ 1 _ rfl; (with_reducible repeat (first | refine blk_drewN ?_ _ | refine blk_drew ?_ | refine blk_alloc ?_ _)); refine blk_put (cs := #[.int .i64 aH, .int .i64 aE]) ?_ 0 _ rfl; exact bf y.out⟩
         have aj : Aside0 (((aC.setCell ⟨L, 0, none⟩ (.int .i64 ((rd_T55 J M).f0))).setCell ⟨L, 1, none⟩ (.int .i64 ((rd_T55 J M).f1))).heap[aa]? = some (.cells #[.int .i64 aA, .int .i64 aB] 55 (0, 0))) := ⟨bf D.out⟩
         have ak : Aside0 (IsS46 w0 ((aC.setCell ⟨L, 0, none⟩ (.int .i64 ((rd_T55 J M).f0))).setCell ⟨L, 1, none⟩ (.int .i64 ((rd_T55 J M).f1))) g T bQ) := ⟨iis G.out⟩
         have al : Aside0 (KeepBut w ((aC.setCell ⟨L, 0, none⟩ (.int .i64 ((rd_T55 J M).f0))).setCell ⟨L, 1, none⟩ (.int .i64 ((rd_T55 J M).f1))) g none) := ⟨ks HK.out⟩
         have an : Aside0 (Below w0.heap.size w0 ((aC.setCell ⟨L, 0, none⟩ (.int .i64 ((rd_T55 J M).f0))).setCell ⟨L, 1, none⟩ (.int .i64 ((rd_T55 J M).f1)))) := ⟨bs HB.out⟩
         (try clear z)
         (try clear I)
         (try clear y)
         (try clear D)
         (try clear G)
         (try clear HK)
         (try clear HB)
         generalize ((aC.setCell ⟨L, 0, none⟩ (.int .i64 ((rd_T55 J M).f0))).setCell ⟨L, 1, none⟩ (.int .i64 ((rd_T55 J M).f1))) = dv at ag ah ai aj ak al an ⊢
         have z := ag
         have I := ah
         have y := ai
         have D := aj
         have G := ak
         have HK := al
         have HB := an
         clear ag ah ai aj ak al an
         replace z := bd z
         replace I := bd I
         replace y := bd y
         replace D := bd D
         replace G := am (IsS46.drew G.out)
         replace HK := am (keep_drew HK.out)
         replace HB := hd HB
         have bA : 0 ≤ (ab : Int) := oda
         have bB : ab < (J.length : Int) := oda
         obtain ⟨dw, dx, bC, bD⟩ := at_T55 (Kd.C_foot_now X.out HK.out) ab bA bB
         have ey := bD
         have ez := bC
         obtain rfl : af = dw := (by injection dx)
         have bW := (show (⟨(af.add ((ab).toNat * 2)).block, (af.add ((ab).toNat * 2)).off + 1, none⟩ : Addr).block ≠ g from by first | (rw [add_block]; exact Kd.foot_ne X.out (by omega) (by decide)) | (show (Addr.add _ _).block ≠ _; rw [add_block]; exact Kd.foot_ne X.out (by omega) (by decide)) | exact Kd.foot_ne X.out (by omega) (by decide) | (dsimp only; exact Kd.foot_ne X.out (by omega) (by decide)))
         have cI := (Kd.foot_lt X.out (by omega) (by decide))
         have bX := (show ((af.add ((ab).toNat * 2)) : Addr).block ≠ g from by first | (rw [add_block]; exact Kd.foot_ne X.out (by omega) (by decide)) | (show (Addr.add _ _).block ≠ _; rw [add_block]; exact Kd.foot_ne X.out (by omega) (by decide)) | exact Kd.foot_ne X.out (by omega) (by decide) | (dsimp only; exact Kd.foot_ne X.out (by omega) (by decide)))
         have cJ := (Kd.foot_lt X.out (by omega) (by decide))
         replace bA := eq_true bA
         replace bB := eq_true bB
         refine sta 10 (fun w' => w'.cell? ⟨ax, 0, none⟩ = some (.slice (some af) J.length aq) ∧ w'.cell? ⟨ax, 1, none⟩ = some (.slice ar ae.length au) ∧ w'.cell? (af.add ((ab).toNat * 2)) = some (.int .i64 ((rd_T55 J ab).f0)) ∧ w'.cell? ⟨(af.add ((ab).toNat * 2)).block, (af.add ((ab).toNat * 2)).off + 1, none⟩ = some (.int .i64 ((rd_T55 J ab).f1))) [] ⟨cx z 0, cx z 1, bC, bD⟩ (fun hHeld => ?_); refine with_tabW spec_l2Edge.tab5 spec_l2Edge.bits5 (fun HT_ HW_ => ?_)
         generalize dv.drew = eA at z I y D G HK HB bC bD hHeld ⊢
         refine pu 0 30 ?_
         refine pu 2 32 ?_
         refine pu 3 33 ?_
         refine tk 1 31 ?_
         refine tk 4 34 ?_
         refine pu 5 35 ?_
         refine on 6 36 (fun K hK => ?_)
         refine gs Try.func18 #[.pointer (some ⟨g, 0, none⟩), .int .i64 (J.length : Int)] ?_
         with_reducible refine (spec_l9Rd_pick.calls aR g T bQ (J.length : Int) ab cE w0 _ ?ao ?ap dq.out).mono ?_
         (case ao => exact iis G.out)
         (case ap => exact bs HB.out)
         rintro e cK ⟨rfl, hi, hb, hk⟩
         have bU := keep_cell hk (hHeld.2.2.1) (by first | (rw [add_block]; exact bX) | (show (Addr.add _ _).block ≠ _; rw [add_block]; exact bX) | exact bX)
         have bV := keep_cell hk (hHeld.2.2.2) (by first | (rw [add_block]; exact bW) | (show (Addr.add _ _).block ≠ _; rw [add_block]; exact bW) | exact bW)
         refine ⟨_, rfl, ?_⟩
         replace z := kk z hk
         replace I := kk I hk
         replace y := kk y hk
         replace D := kk D hk
         replace HK := kt HK hk
         replace HB := am hb
         replace G := am hi
         (try clear hb)
         (try clear hb2)
         (try clear hk)
         (try clear hi)
         refine hK.out _ _ ⟨cx z 0, cx z 1, bU, bV⟩ (fun hHeld => ?_)
         clear hK K
         refine nrm 36 ?_
         refine pu 7 37 ?_
         refine tk 8 38 ?_
         refine on0 9 (fun K hK => ?_)
         have eB : cK.cell? ⟨aa, 0, none⟩ = some (.int .i64 aA) := cx D 0
         have eC := blk_frozen D.out 0
         have eD := az.out
         have eE := a6.out
         have eF := aN.out
         have eG := aM.out
         have eH := a7.out
         have eI := aO.out
         have eJ : cK.cell? ⟨aa, 1, none⟩ = some (.int .i64 aB) := cx D 1
         have eK := blk_frozen D.out 1
         have eL := az.out
         have eM := a6.out
         have eN := aN.out
         have eO := aM.out
         have eP := a7.out
         have eQ := aO.out
         refine sk ?_
         refine hK.out _ _ ⟨((cell_far (p := ⟨aa, _, none⟩) az.out _).trans (((cell_far (p := ⟨aa, _, none⟩) az.out _).trans (hHeld.1)))), ((cell_far (p := ⟨aa, _, none⟩) az.out _).trans (((cell_far (p := ⟨aa, _, none⟩) az.out _).trans (hHeld.2.1)))), ((cell_far (p := ⟨aa, _, none⟩) (nl2 cJ a5) _).trans (((cell_far (p := ⟨aa, _, none⟩) (nl2 cJ a5) _).trans (hHeld.2.2.1)))), ((cell_far (p := ⟨aa, _, none⟩) (nl2 cI a5) _).trans (((cell_far (p := ⟨aa, _, none⟩) (nl2 cI a5) _).trans (hHeld.2.2.2))))⟩ (fun hHeld => ?_)
         clear hK K
         refine dn ?_
         try go_wp2
         go_meet
         case rel => exact ⟨_, (cE), ((rd_T55 J M).f0), ((rd_T55 J M).f1), ((rd_T55 J ab).f0), ((rd_T55 J ab).f1), H', ⟨by have := cC.out; first | omega | exact Nat.le_refl _⟩, ⟨bf z.out⟩, ⟨bf I.out⟩, ⟨bf y.out⟩, ⟨by (with_reducible repeat (first | refine blk_drewN ?_ _ | refine blk_drew ?_ | refine blk_alloc ?_ _)); refine blk_put (cs := #[.int .i64 ((rd_T55 J ab).f0), .int .i64 aB]) ?_ 1 _ rfl; (with_reducible repeat (first | refine blk_drewN ?_ _ | refine blk_drew ?_ | refine blk_alloc ?_ _)); refine blk_put (cs := #[.int .i64 aA, .int .i64 aB]) ?_ 0 _ rfl; exact bf D.out⟩, ⟨iis G.out⟩, ⟨ks HK.out⟩, ⟨bs HB.out⟩⟩
        ·rw [if_neg bh] at H
         exact absurd H (by simp)
       ·rw [if_neg bg] at H
        exact absurd H (by simp)
      ·rw [if_neg be] at H
       exact absurd H (by simp)
     ·rw [if_neg bc] at H
      exact absurd H (by simp)
    ·replace a8 := Bool.eq_false_iff.mpr a8
     subst a8
     have H1 : (spec_l2Edge.j1 aR T aP aH aE aA aB) = some (r1, r2, r3, r4, r5, r6) := by rw [if_neg (show ¬ (false = true) by decide)] at H; exact H
     clear H
     have H := H1
     clear H1
     have H' := am H
     clear H
     go_wp2
     go_meet
     case rel => exact ⟨_, (aP), (aH), (aE), (aA), (aB), H', ⟨by have := cC.out; first | omega | exact Nat.le_refl _⟩, ⟨bf z.out⟩, ⟨bf I.out⟩, ⟨bf y.out⟩, ⟨bf D.out⟩, ⟨iis G.out⟩, ⟨ks HK.out⟩, ⟨bs HB.out⟩⟩
   case rest =>
    clear bP
    try clear c1
    try clear c2
    try clear p2
    try clear c3
    try clear c4
    try clear p4
    try clear q4
    try clear eR
    try clear p5
    try clear q5
    try clear eS
    try clear c7
    try clear c8
    try clear c9
    try clear da
    try clear db
    try clear dc
    try clear dd
    try clear aI
    try clear aQ
    try clear bO
    try clear de
    try clear df
    try clear dg
    try clear dh
    try clear di
    try clear dj
    try clear dk
    try clear dl
    try clear a8
    try clear bc
    try clear bR
    try clear be
    try clear dp
    try clear bg
    try clear dr
    try clear bh
    try clear dt
    try clear eT
    try clear eU
    try clear eV
    try clear eW
    try clear eX
    try clear eY
    try clear ci cj
    try clear cl cm
    try clear cu cv
    try clear cz cA
    try clear ck
    try clear cn
    try clear cy
    try clear cB
    try clear bw
    try clear bz
    try clear bC
    try clear bD
    try clear p2
    try clear bu
    try clear bA
    try clear bv
    try clear bB
    obtain ⟨kq, aJ, Y, ac, Z, ad, HA, eZ, z, I, y, D, G, HK, HB⟩ := hcut
    cases kq with
    | zero => exact absurd HA.out (by simp [spec_l2Edge.j1])
    | succ aK =>
     have H := HA.out
     clear HA
     simp only [spec_l2Edge.j1] at H
     replace H := Option.bind_eq_some_iff.mp H
     obtain ⟨aS, cL, H⟩ := H
     try dsimp -simprocs only at H
     have cM := am cL
     clear cL
     obtain ⟨aG, bY⟩ : ∃ y_ : List Int, y_ = (([0, 0, 0, 1, 2, 4] : List Int)) := ⟨_, rfl⟩
     replace H : ((spec_l9Rd_num.f aK T aJ aG).bind fun bZ => ((spec_l1Mix.f aK aS bZ.1 false).bind fun aT => ((spec_l2Code.f Y ac).bind fun aU => ((spec_l2Code.f Z ad).bind fun aV => (if aU > aV then (some (aT, Z, ad, Y, ac, bZ.2)) else (some (aT, Y, ac, Z, ad, bZ.2))))))) = some (r1, r2, r3, r4, r5, r6) := by first | (rw [bY]; exact H) | exact H
     have bE := am bY
     clear bY
     replace H := Option.bind_eq_some_iff.mp H
     obtain ⟨⟨aW, bF⟩, cN, H⟩ := H
     try dsimp -simprocs only at H
     have cO := am cN
     clear cN
     replace H := Option.bind_eq_some_iff.mp H
     obtain ⟨aT, cP, H⟩ := H
     try dsimp -simprocs only at H
     have cQ := am cP
     clear cP
     replace H := Option.bind_eq_some_iff.mp H
     obtain ⟨aU, cR, H⟩ := H
     try dsimp -simprocs only at H
     have cS := am cR
     clear cR
     replace H := Option.bind_eq_some_iff.mp H
     obtain ⟨aV, cT, H⟩ := H
     try dsimp -simprocs only at H
     have cU := am cT
     clear cT
     by_cases aX : aU > aV
     ·rw [if_pos aX] at H
      have dy : decide (aV < aU) = true := decide_eq_true aX
      clear aX
      simp only [Option.some.injEq, Prod.mk.injEq] at H
      obtain ⟨rfl, rfl, rfl, rfl, rfl, rfl⟩ := H
      have e0 := aL.out
      have e1 := ay.out
      have e2 := a4.out
      have e3 := aZ.out
      have e4 := aN.out
      have e5 := aO.out
      have e6 := bL.out
      have e7 := bo.out
      obtain ⟨e8, e9⟩ := bc2 (w := wc) y.out
      have fa := blk_frozen y.out
      have fb := aM.out
      have fc := az.out
      have fd := a7.out
      have fe := a6.out
      have ff := bN.out
      have fg := br.out
      obtain ⟨fh, fi⟩ := bc2 (w := wc) D.out
      have fj := blk_frozen D.out
      try go_wp2_with (first | ((with_reducible refine gc 51 rfl ?_); refine gl 43 Try.func51 #[.int .i64 Y, .int .i64 Z, .bool false] ?_; (with_reducible refine (spec_l1Mix.calls aK Y Z false aS _ cM.out).mono ?_); rintro e w' ⟨rfl, ⟨nd, rfl⟩⟩; refine ⟨_, rfl, ?_⟩; (try (rw [drewN_self wc]; generalize hq_ : World.drewN wc _ = wc; have ag : Aside0 (wc.heap[ax]? = some (.cells #[.slice aD J.length aq, .slice ar ae.length au] 38 (0, 0))) := ⟨by rw [← hq_]; exact (bf z.out)⟩; have ah : Aside0 (wc.heap[aF]? = some (.cells #[.int .i64 0, .int .i64 0, .int .i64 0, .int .i64 0, .int .i64 0] 57 (0, 0))) := ⟨by rw [← hq_]; exact (bf I.out)⟩; have ai : Aside0 (wc.heap[L]? = some (.cells #[.int .i64 Y, .int .i64 ac] 55 (0, 0))) := ⟨by rw [← hq_]; exact (bf y.out)⟩; have aj : Aside0 (wc.heap[aa]? = some (.cells #[.int .i64 Z, .int .i64 ad] 55 (0, 0))) := ⟨by rw [← hq_]; exact (bf D.out)⟩; have ak : Aside0 (IsS46 w0 wc g T aJ) := ⟨by rw [← hq_]; exact (iis G.out)⟩; have al : Aside0 (KeepBut w wc g none) := ⟨by rw [← hq_]; exact (ks HK.out)⟩; have an : Aside0 (Below w0.heap.size w0 wc) := ⟨by rw [← hq_]; exact (bs HB.out)⟩; clear z I y D G HK HB hq_; have z := ag; have I := ah; have y := ai; have D := aj; have G := ak; have HK := al; have HB := an; clear ag ah ai aj ak al an))) | ((with_reducible refine gd 45 rfl ?_); refine rli (k := .i64) 3 45 ([0, 0, 0, 1, 2, 4] : List Int) ?_; intro dz fk bi hb hg_ hnew_; clear hg_ hnew_; (first | rw [← bE.out] at bi | (simp only [Int.reduceToNat] at bi; rw [← bE.out] at bi)); have O := am (Kd.R_lower bi (keep_size (w := w) (g := g) (row := none) (ks HK.out))); replace z := bb z hb rfl; replace I := bb I hb rfl; replace y := bb y hb rfl; replace D := bb D hb rfl; replace G := ib G hb; replace HK := kb HK hb; replace HB := hs HB hb; clear hb bi; obtain ⟨cV, cW, dA⟩ := Kd.R_slice O.out; subst dA) | ((with_reducible refine gc 19 rfl ?_); refine gl 46 Try.func19 #[.pointer (some ⟨g, 0, none⟩), .slice cV aG.length cW] ?_; (with_reducible refine (spec_l9Rd_num.calls aK g T aJ _ _ aG aW bF w0 _ ?ao ?ap ?b0 ?b1 ?b2 cO.out).mono ?_); (case ao => exact iis G.out); (case ap => exact bs HB.out); (case b0 => exact cr O); (case b1 => exact cc O); (case b2 => exact far_slice (IsS46.own_ne G.out O.out (by decide))); rintro e av ⟨rfl, hi, hb, hk⟩; refine ⟨_, rfl, ?_⟩; replace z := kk z hk; replace I := kk I hk; replace y := kk y hk; replace D := kk D hk; replace O := ro O G hk; replace HK := kt HK hk; replace HB := am hb; replace G := am hi; (try clear hi hb hk)) | ((with_reducible refine gc 51 rfl ?_); refine gl 47 Try.func51 #[.int .i64 aS, .int .i64 aW, .bool false] ?_; (with_reducible refine (spec_l1Mix.calls aK aS aW false aT _ cQ.out).mono ?_); rintro e w' ⟨rfl, ⟨nd, rfl⟩⟩; refine ⟨_, rfl, ?_⟩; (try (rw [drewN_self av]; generalize hq_ : World.drewN av _ = av; have ag : Aside0 (Kd.R (Kd.int .i64) 3 av w.heap.size (fun _ => True) (.slice cV aG.length cW) aG) := ⟨by rw [← hq_]; exact (rl O.out)⟩; have ah : Aside0 (av.heap[ax]? = some (.cells #[.slice aD J.length aq, .slice ar ae.length au] 38 (0, 0))) := ⟨by rw [← hq_]; exact (bf z.out)⟩; have ai : Aside0 (av.heap[aF]? = some (.cells #[.int .i64 0, .int .i64 0, .int .i64 0, .int .i64 0, .int .i64 0] 57 (0, 0))) := ⟨by rw [← hq_]; exact (bf I.out)⟩; have aj : Aside0 (av.heap[L]? = some (.cells #[.int .i64 Y, .int .i64 ac] 55 (0, 0))) := ⟨by rw [← hq_]; exact (bf y.out)⟩; have ak : Aside0 (av.heap[aa]? = some (.cells #[.int .i64 Z, .int .i64 ad] 55 (0, 0))) := ⟨by rw [← hq_]; exact (bf D.out)⟩; have al : Aside0 (IsS46 w0 av g T bF) := ⟨by rw [← hq_]; exact (iis G.out)⟩; have an : Aside0 (KeepBut w av g none) := ⟨by rw [← hq_]; exact (ks HK.out)⟩; have bj : Aside0 (Below w0.heap.size w0 av) := ⟨by rw [← hq_]; exact (bs HB.out)⟩; clear O z I y D G HK HB hq_; have O := ag; have z := ah; have I := ai; have y := aj; have D := ak; have G := al; have HK := an; have HB := bj; clear ag ah ai aj ak al an bj))))
      replace O := rd_ O
      replace z := bd z
      replace I := bd I
      replace y := bd y
      replace D := bd D
      replace G := am (IsS46.drew G.out)
      replace HK := am (keep_drew HK.out)
      replace HB := hd HB
      refine sta 5 (fun w' => w'.cell? ⟨L, 0, none⟩ = some (.int .i64 Y) ∧ w'.cell? ⟨L, 1, none⟩ = some (.int .i64 ac) ∧ w'.cell? ⟨aa, 0, none⟩ = some (.int .i64 Z) ∧ w'.cell? ⟨aa, 1, none⟩ = some (.int .i64 ad)) [] ⟨cx y 0, cx y 1, cx D 0, cx D 1⟩ (fun hHeld => ?_)
      generalize av.drew = fl at O z I y D G HK HB hHeld ⊢
      refine tk 0 48 ?_
      refine tk 2 50 ?_
      refine on 1 49 (fun K hK => ?_)
      refine gs Try.func31 #[.agg #[.int .i64 Y, .int .i64 ac]] ?_
      with_reducible refine (spec_l2Code.calls Y ac aU _ cS.out).mono ?_
      rintro e fm ⟨rfl, hb⟩
      refine ⟨_, rfl, ?_⟩
      replace O := rb O hb
      replace z := bb z hb rfl
      replace I := bb I hb rfl
      replace y := bb y hb rfl
      replace D := bb D hb rfl
      replace G := ib G hb
      replace HK := kb HK hb
      replace HB := hs HB hb
      (try clear hb)
      (try clear hb2)
      (try clear hk)
      (try clear hi)
      refine hK.out _ _ ⟨cx y 0, cx y 1, cx D 0, cx D 1⟩ (fun hHeld => ?_)
      clear hK K
      refine nrm 49 ?_
      refine on 3 51 (fun K hK => ?_)
      refine gs Try.func31 #[.agg #[.int .i64 Z, .int .i64 ad]] ?_
      with_reducible refine (spec_l2Code.calls Z ad aV _ cU.out).mono ?_
      rintro e b3 ⟨rfl, hb⟩
      refine ⟨_, rfl, ?_⟩
      replace O := rb O hb
      replace z := bb z hb rfl
      replace I := bb I hb rfl
      replace y := bb y hb rfl
      replace D := bb D hb rfl
      replace G := ib G hb
      replace HK := kb HK hb
      replace HB := hs HB hb
      (try clear hb)
      (try clear hb2)
      (try clear hk)
      (try clear hi)
      refine hK.out _ _ ⟨cx y 0, cx y 1, cx D 0, cx D 1⟩ (fun hHeld => ?_)
      clear hK K
      refine nrm 51 ?_
      refine pu 4 52 ?_
      refine dn ?_
      obtain ⟨fo, fp⟩ := bc2 (w := b3) D.out
      have fq := blk_frozen D.out
      obtain ⟨fr, fs⟩ := bc2 (w := b3) y.out
      have ft := blk_frozen y.out
      have fu := bn.out
      have fv := bm.out
      have fw := ch.out
      have fx := bK.out
      obtain ⟨fy, fz, fA, fB, fC⟩ := bc5 (w := b3) I.out
      have fD := blk_frozen I.out
      try go_wp2
      refine bodyPost_ret (results_cell_row rfl _ _ aF 57 #[.int .i64 aT, .int .i64 Z, .int .i64 ad, .int .i64 Y, .int .i64 ac] (0, 0) _ rfl (bp I.out rfl) Try.underlying57 rfl (by kernel_rfl)) rfl ?_
      exact ⟨eqr, iis G.out, bs HB.out, ks HK.out⟩
     ·rw [if_neg aX] at H
      have dy : decide (aV < aU) = false := decide_eq_false aX
      clear aX
      simp only [Option.some.injEq, Prod.mk.injEq] at H
      obtain ⟨rfl, rfl, rfl, rfl, rfl, rfl⟩ := H
      have fE := aL.out
      have fF := ay.out
      have fG := a4.out
      have fH := aZ.out
      have fI := aN.out
      have fJ := aO.out
      have fK := bL.out
      have fL := bo.out
      obtain ⟨fM, fN⟩ := bc2 (w := wc) y.out
      have fO := blk_frozen y.out
      have fP := aM.out
      have fQ := az.out
      have fR := a7.out
      have fS := a6.out
      have fT := bN.out
      have fU := br.out
      obtain ⟨fV, fW⟩ := bc2 (w := wc) D.out
      have fX := blk_frozen D.out
      try go_wp2_with (first | ((with_reducible refine gc 51 rfl ?_); refine gl 43 Try.func51 #[.int .i64 Y, .int .i64 Z, .bool false] ?_; (with_reducible refine (spec_l1Mix.calls aK Y Z false aS _ cM.out).mono ?_); rintro e w' ⟨rfl, ⟨nd, rfl⟩⟩; refine ⟨_, rfl, ?_⟩; (try (rw [drewN_self wc]; generalize hq_ : World.drewN wc _ = wc; have ag : Aside0 (wc.heap[ax]? = some (.cells #[.slice aD J.length aq, .slice ar ae.length au] 38 (0, 0))) := ⟨by rw [← hq_]; exact (bf z.out)⟩; have ah : Aside0 (wc.heap[aF]? = some (.cells #[.int .i64 0, .int .i64 0, .int .i64 0, .int .i64 0, .int .i64 0] 57 (0, 0))) := ⟨by rw [← hq_]; exact (bf I.out)⟩; have ai : Aside0 (wc.heap[L]? = some (.cells #[.int .i64 Y, .int .i64 ac] 55 (0, 0))) := ⟨by rw [← hq_]; exact (bf y.out)⟩; have aj : Aside0 (wc.heap[aa]? = some (.cells #[.int .i64 Z, .int .i64 ad] 55 (0, 0))) := ⟨by rw [← hq_]; exact (bf D.out)⟩; have ak : Aside0 (IsS46 w0 wc g T aJ) := ⟨by rw [← hq_]; exact (iis G.out)⟩; have al : Aside0 (KeepBut w wc g none) := ⟨by rw [← hq_]; exact (ks HK.out)⟩; have an : Aside0 (Below w0.heap.size w0 wc) := ⟨by rw [← hq_]; exact (bs HB.out)⟩; clear z I y D G HK HB hq_; have z := ag; have I := ah; have y := ai; have D := aj; have G := ak; have HK := al; have HB := an; clear ag ah ai aj ak al an))) | ((with_reducible refine gd 45 rfl ?_); refine rli (k := .i64) 3 45 ([0, 0, 0, 1, 2, 4] : List Int) ?_; intro dz fY bk hb hg_ hnew_; clear hg_ hnew_; (first | rw [← bE.out] at bk | (simp only [Int.reduceToNat] at bk; rw [← bE.out] at bk)); have O := am (Kd.R_lower bk (keep_size (w := w) (g := g) (row := none) (ks HK.out))); replace z := bb z hb rfl; replace I := bb I hb rfl; replace y := bb y hb rfl; replace D := bb D hb rfl; replace G := ib G hb; replace HK := kb HK hb; replace HB := hs HB hb; clear hb bk; obtain ⟨cX, cY, dB⟩ := Kd.R_slice O.out; subst dB) | ((with_reducible refine gc 19 rfl ?_); refine gl 46 Try.func19 #[.pointer (some ⟨g, 0, none⟩), .slice cX aG.length cY] ?_; (with_reducible refine (spec_l9Rd_num.calls aK g T aJ _ _ aG aW bF w0 _ ?ao ?ap ?b0 ?b1 ?b2 cO.out).mono ?_); (case ao => exact iis G.out); (case ap => exact bs HB.out); (case b0 => exact cr O); (case b1 => exact cc O); (case b2 => exact far_slice (IsS46.own_ne G.out O.out (by decide))); rintro e aw ⟨rfl, hi, hb, hk⟩; refine ⟨_, rfl, ?_⟩; replace z := kk z hk; replace I := kk I hk; replace y := kk y hk; replace D := kk D hk; replace O := ro O G hk; replace HK := kt HK hk; replace HB := am hb; replace G := am hi; (try clear hi hb hk)) | ((with_reducible refine gc 51 rfl ?_); refine gl 47 Try.func51 #[.int .i64 aS, .int .i64 aW, .bool false] ?_; (with_reducible refine (spec_l1Mix.calls aK aS aW false aT _ cQ.out).mono ?_); rintro e w' ⟨rfl, ⟨nd, rfl⟩⟩; refine ⟨_, rfl, ?_⟩; (try (rw [drewN_self aw]; generalize hq_ : World.drewN aw _ = aw; have ag : Aside0 (Kd.R (Kd.int .i64) 3 aw w.heap.size (fun _ => True) (.slice cX aG.length cY) aG) := ⟨by rw [← hq_]; exact (rl O.out)⟩; have ah : Aside0 (aw.heap[ax]? = some (.cells #[.slice aD J.length aq, .slice ar ae.length au] 38 (0, 0))) := ⟨by rw [← hq_]; exact (bf z.out)⟩; have ai : Aside0 (aw.heap[aF]? = some (.cells #[.int .i64 0, .int .i64 0, .int .i64 0, .int .i64 0, .int .i64 0] 57 (0, 0))) := ⟨by rw [← hq_]; exact (bf I.out)⟩; have aj : Aside0 (aw.heap[L]? = some (.cells #[.int .i64 Y, .int .i64 ac] 55 (0, 0))) := ⟨by rw [← hq_]; exact (bf y.out)⟩; have ak : Aside0 (aw.heap[aa]? = some (.cells #[.int .i64 Z, .int .i64 ad] 55 (0, 0))) := ⟨by rw [← hq_]; exact (bf D.out)⟩; have al : Aside0 (IsS46 w0 aw g T bF) := ⟨by rw [← hq_]; exact (iis G.out)⟩; have an : Aside0 (KeepBut w aw g none) := ⟨by rw [← hq_]; exact (ks HK.out)⟩; have bj : Aside0 (Below w0.heap.size w0 aw) := ⟨by rw [← hq_]; exact (bs HB.out)⟩; clear O z I y D G HK HB hq_; have O := ag; have z := ah; have I := ai; have y := aj; have D := ak; have G := al; have HK := an; have HB := bj; clear ag ah ai aj ak al an bj))))
      replace O := rd_ O
      replace z := bd z
      replace I := bd I
      replace y := bd y
      replace D := bd D
      replace G := am (IsS46.drew G.out)
      replace HK := am (keep_drew HK.out)
      replace HB := hd HB
      refine sta 5 (fun w' => w'.cell? ⟨L, 0, none⟩ = some (.int .i64 Y) ∧ w'.cell? ⟨L, 1, none⟩ = some (.int .i64 ac) ∧ w'.cell? ⟨aa, 0, none⟩ = some (.int .i64 Z) ∧ w'.cell? ⟨aa, 1, none⟩ = some (.int .i64 ad)) [] ⟨cx y 0, cx y 1, cx D 0, cx D 1⟩ (fun hHeld => ?_)
      generalize aw.drew = fZ at O z I y D G HK HB hHeld ⊢
      refine tk 0 48 ?_
      refine tk 2 50 ?_
      refine on 1 49 (fun K hK => ?_)
      refine gs Try.func31 #[.agg #[.int .i64 Y, .int .i64 ac]] ?_
      with_reducible refine (spec_l2Code.calls Y ac aU _ cS.out).mono ?_
      rintro e f2 ⟨rfl, hb⟩
      refine ⟨_, rfl, ?_⟩
      replace O := rb O hb
      replace z := bb z hb rfl
      replace I := bb I hb rfl
      replace y := bb y hb rfl
      replace D := bb D hb rfl
      replace G := ib G hb
      replace HK := kb HK hb
      replace HB := hs HB hb
      (try clear hb)
      (try clear hb2)
      (try clear hk)
      (try clear hi)
      refine hK.out _ _ ⟨cx y 0, cx y 1, cx D 0, cx D 1⟩ (fun hHeld => ?_)
      clear hK K
      refine nrm 49 ?_
      refine on 3 51 (fun K hK => ?_)
      refine gs Try.func31 #[.agg #[.int .i64 Z, .int .i64 ad]] ?_
      with_reducible refine (spec_l2Code.calls Z ad aV _ cU.out).mono ?_
      rintro e b4 ⟨rfl, hb⟩
      refine ⟨_, rfl, ?_⟩
      replace O := rb O hb
      replace z := bb z hb rfl
      replace I := bb I hb rfl
      replace y := bb y hb rfl
      replace D := bb D hb rfl
      replace G := ib G hb
      replace HK := kb HK hb
      replace HB := hs HB hb
      (try clear hb)
      (try clear hb2)
      (try clear hk)
      (try clear hi)
      refine hK.out _ _ ⟨cx y 0, cx y 1, cx D 0, cx D 1⟩ (fun hHeld => ?_)
      clear hK K
      refine nrm 51 ?_
      refine pu 4 52 ?_
      refine dn ?_
      obtain ⟨f3, f4⟩ := bc2 (w := b4) y.out
      have f5 := blk_frozen y.out
      obtain ⟨f6, f7⟩ := bc2 (w := b4) D.out
      have f8 := blk_frozen D.out
      have f9 := bn.out
      have ga := bm.out
      have gb := ch.out
      have gf := bK.out
      obtain ⟨gg, gh, gi, gj, gk⟩ := bc5 (w := b4) I.out
      have gm := blk_frozen I.out
      try go_wp2
      refine bodyPost_ret (results_cell_row rfl _ _ aF 57 #[.int .i64 aT, .int .i64 Y, .int .i64 ac, .int .i64 Z, .int .i64 ad] (0, 0) _ rfl (bp I.out rfl) Try.underlying57 rfl (by kernel_rfl)) rfl ?_
      exact ⟨eqr, iis G.out, bs HB.out, ks HK.out⟩

end Go.Proofs.Ytkbamcicbofjbaa.QFnStoreNarrow
