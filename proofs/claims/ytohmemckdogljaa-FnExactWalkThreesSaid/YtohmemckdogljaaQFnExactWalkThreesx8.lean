/- Contracts of the Go functions that this law reaches: each does what its plain Lean function says. No condition. -/
import Derived.Test.YtohmemckdogljaaQFnExactWalkThreesx0
import Derived.Test.YtohmemckdogljaaQFnExactWalkThreesx3
import Derived.Test.YtohmemckdogljaaQFnExactWalkThreesx5
import Derived.Test.YtohmemckdogljaaQFnExactWalkThreesx7
namespace Go.Proofs.Ytohmemckdogljaa.QFnExactWalkThrees
open Go.RowKit Go.Proofs.YtohmemckdogljaaW.PrintWords Go.Proofs.YtohmemckdogljaaW.PrintLast Go.Proofs.YtohmemckdogljaaW.PrintMore Go.Proofs.Ytohmemckdogljaa.Bl
attribute [local go_sem] max2_int min2_int max_two min_two max_three min_three max_four min_four   -- for this text's walks alone
set_option linter.unusedVariables false
set_option linter.unusedSimpArgs false
set_option maxHeartbeats 8000000
set_option maxRecDepth 100000

/-! ### spec_WalkThrees: function 56 -/
mutual
def spec_WalkThrees.l0 : Nat → Int → Int → List (S36) → List (S56) → Option (Int)
 | 0, _, _, _, _ => none
 | k + 1, z, s, y, D => if s < (y.length : Int) then (if 0 ≤ s then ((spec_l2Near.f k y D ((rd_T36 y s).f0) ((rd_T36 y s).f1)).bind fun G => (spec_WalkThrees.l1 k z s G 0 y D)) else (none)) else (some z)
def spec_WalkThrees.l1 : Nat → Int → Int → List (S36) → Int → List (S36) → List (S56) → Option (Int)
 | 0, _, _, _, _, _, _ => none
 | k + 1, y, z, D, s, G, I => if s < (D.length : Int) then (spec_WalkThrees.l2 k y z D s (wrap64 (s + 1)) G I) else (spec_WalkThrees.l0 k y (wrap64 (z + 1)) G I)
def spec_WalkThrees.l2 : Nat → Int → Int → List (S36) → Int → Int → List (S36) → List (S56) → Option (Int)
 | 0, _, _, _, _, _, _, _ => none
 | k + 1, J, z, s, y, G, D, I => if G < (s.length : Int) then (if 0 ≤ z then (if z < (D.length : Int) then ((spec_l2Code.f ((rd_T36 D z).f0) ((rd_T36 D z).f1)).bind fun L => (if 0 ≤ y then (if y < (s.length : Int) then ((spec_l2Code.f ((rd_T36 s y).f0) ((rd_T36 s y).f1)).bind fun M => (if L < M then (if 0 ≤ G then ((spec_l3Joined.f k D I ((rd_T36 s y).f0) ((rd_T36 s y).f1) ((rd_T36 s G).f0) ((rd_T36 s G).f1)).bind fun O => (if O = true then (spec_WalkThrees.l2 k (wrap64 (J + 1)) z s y (wrap64 (G + 1)) D I) else (spec_WalkThrees.l2 k J z s y (wrap64 (G + 1)) D I))) else (none)) else (spec_WalkThrees.l2 k J z s y (wrap64 (G + 1)) D I))) else (none)) else (none))) else (none)) else (none)) else (spec_WalkThrees.l1 k J z s (wrap64 (y + 1)) D I)
end
def spec_WalkThrees.f (k : Nat) (s : List (S36)) (y : List (S56)) : Option (Int) := (spec_GraphOk.f k s y).bind fun z => (if z = true then (spec_WalkThrees.l0 k 0 0 s y) else (some 0))
def spec_WalkThrees.T7 : Bool × List (List Nat × List Nat) := (true, [([], []), ([], []), ([1], [1]), ([], []), ([2, 3], [2, 3]), ([4], [4]), ([0, 5], [0, 5]), ([6, 6, 0, 1, 2, 3, 4, 5, 6], [6])])
def spec_WalkThrees.B7 : List Nat := [0, 0, 2, 0, 14, 30, 63, 127]
theorem spec_WalkThrees.tab7 : rtab .any (opsOf Try.f56 7) = spec_WalkThrees.T7 := by kernel_rfl
theorem spec_WalkThrees.bits7 : waitsOk spec_WalkThrees.T7.2 spec_WalkThrees.B7 = true := by kernel_rfl
def spec_WalkThrees.T14 : Bool × List (List Nat × List Nat) := (true, [([], []), ([0], [0]), ([], []), ([1, 2], [1, 2]), ([3], [3]), ([4], [4]), ([], []), ([], []), ([6, 7], [6, 7]), ([8], [8]), ([9, 5], [9]), ([5, 10], [5, 10]), ([11, 10], [11]), ([12], [12]), ([12], [12]), ([12], [12]), ([14, 15, 12], [12, 14, 15]), ([16, 12], [12, 16]), ([12], [12]), ([12], [12]), ([18, 19, 12], [12, 18, 19]), ([20, 12], [12, 20]), ([13, 17, 21, 12, 12], [12, 13, 17, 21]), ([12, 22], [12, 22])])
def spec_WalkThrees.B14 : List Nat := [0, 1, 0, 7, 15, 31, 0, 0, 192, 448, 1023, 2047, 4095, 8191, 8191, 8191, 57343, 122879, 8191, 8191, 794623, 1843199, 4194303, 8388607]
theorem spec_WalkThrees.tab14 : rtab .any (opsOf Try.f56 14) = spec_WalkThrees.T14 := by kernel_rfl
theorem spec_WalkThrees.bits14 : waitsOk spec_WalkThrees.T14.2 spec_WalkThrees.B14 = true := by kernel_rfl
theorem spec_WalkThrees.calls (k : Nat) (aD : Option Addr) (X : Nat) (G : List (S36)) (Y : Option Addr) (Z : Nat) (M : List (S56)) (r : Int) (w : World) (bo : Kd.C k36 w aD G.length G) (br : G.length ≤ X) (bt : Kd.C k56 w Y M.length M) (bu : M.length ≤ Z) (h : spec_WalkThrees.f k G M = some r) :
  Calls Try.prog 56 #[.agg #[.slice aD G.length X, .slice Y M.length Z]] w fun e w' => e = .returned (.int .i64 r) ∧ Below w.heap.size w w' := by
 have hu34 := Try.underlying34
 have hu36 := Try.underlying36
 have au := am bo
 have aP := am br
 clear bo br
 have aQ := am bt
 have aR := am bu
 clear bt bu
 have HB := am (Below.refl w.heap.size w)
 have H := h; unfold spec_WalkThrees.f at H
 clear h
 replace H := Option.bind_eq_some_iff.mp H
 obtain ⟨bL, bv, H⟩ := H
 try dsimp -simprocs only at H
 have A2 := am bv
 clear bv
 by_cases c3 : bL = true
 ·subst c3
  replace H : (spec_WalkThrees.l0 k 0 0 G M) = some r := by rw [if_pos rfl] at H; exact H
  have H' := am H
  clear H
  go_enter Try.func56, Try.ntmps56
  go_wp2_with (first | ((with_reducible refine gd 1 rfl ?_); refine bx 1 (cs := #[.slice aD G.length X, .slice Y M.length Z]) (t := 34) ?_; intro ag hg w4 hbox hb; have s := am hbox; have bM := gwb HB hg; replace HB := hs HB hb; clear hb hbox hg; obtain ⟨bc, be⟩ := bc2 (w := w4) s.out; have bg := blk_frozen s.out) | ((with_reducible refine gc 33 rfl ?_); refine gl 9 Try.func33 #[.agg #[.slice aD G.length X, .slice Y M.length Z]] ?_; (with_reducible refine (spec_GraphOk.calls k _ _ G _ _ M true _ ?av ?aw ?ax ?ay A2.out).mono ?_); (case av => exact Kd.C_below au.out (bs HB.out)); (case aw => exact aP.out); (case ax => exact Kd.C_below aQ.out (bs HB.out)); (case ay => exact aR.out); rintro e w6 ⟨rfl, hb⟩; refine ⟨_, rfl, ?_⟩; replace s := bb s hb rfl; replace HB := hs HB hb; (try clear hb)))
  go_loopg [3, 4] k (fun kq v3 v4 w' => ∃ (a4 : Int) (z : Int), v3 = .int .i64 a4 ∧ v4 = .int .i64 z ∧ Aside0 (spec_WalkThrees.l0 kq a4 z G M = some r) ∧ Aside0 (kq ≤ k) ∧ Aside0 (w'.heap[ag]? = some (.cells #[(.slice aD G.length X), (.slice Y M.length Z)] 34 (0, 0))) ∧ Aside0 (Below w.heap.size w w'))
  case atStart => exact ⟨(0), (0), eqs, eqs, H', ⟨Nat.le_refl _⟩, ⟨bf s.out⟩, ⟨bs HB.out⟩⟩
  case round =>
   clear H'
   try clear p2
   try clear c3
   try clear c5
   try clear bc be
   try clear bg
   obtain ⟨a4, z, rfl, rfl, HA, aq, s, HB⟩ := hrel
   cases gk with
   | zero => exact absurd HA.out (by simp [spec_WalkThrees.l0])
   | succ k1 =>
    have H := HA.out
    clear HA
    simp only [spec_WalkThrees.l0] at H
    by_cases c7 : z < (G.length : Int)
    ·rw [if_pos c7] at H
     have bh : decide (z < (G.length : Int)) = true := decide_eq_true c7
     clear c7
     by_cases c8 : 0 ≤ z
     ·rw [if_pos c8] at H
      have bw : decide (0 ≤ z) = true := decide_eq_true c8
      clear c8
      replace H := Option.bind_eq_some_iff.mp H
      obtain ⟨D, bz, H⟩ := H
      try dsimp -simprocs only at H
      have A9 := am bz
      clear bz
      have H' := am H
      clear H
      obtain ⟨bA, bB⟩ := bc2 (w := wr) s.out
      have bC := blk_frozen s.out
      try go_wp2
      replace s := bd s
      replace HB := hd HB
      have aS : 0 ≤ (z : Int) := oda
      have aT : z < (G.length : Int) := oda
      obtain ⟨T, bN, aJ, aK⟩ := at_T36 au.out z aS aT
      have bD := aK
      have bE := aJ
      cases bN
      replace aJ := cb HB aJ
      replace aK := cb HB aK
      replace aS := eq_true aS
      replace aT := eq_true aT
      refine sta 8 (fun w' => w'.cell? ⟨ag, 0, none⟩ = some (.slice (some T) G.length X) ∧ w'.cell? ⟨ag, 1, none⟩ = some (.slice Y M.length Z) ∧ w'.cell? (T.add ((z).toNat * 2)) = some (.int .i64 ((rd_T36 G z).f0)) ∧ w'.cell? ⟨(T.add ((z).toNat * 2)).block, (T.add ((z).toNat * 2)).off + 1, none⟩ = some (.int .i64 ((rd_T36 G z).f1))) [] ⟨cx s 0, cx s 1, (cb HB bE), (cb HB bD)⟩ (fun hHeld => ?_); refine with_tabW spec_WalkThrees.tab7 spec_WalkThrees.bits7 (fun HT_ HW_ => ?_)
      generalize wr.drew = bZ at s HB aJ aK hHeld ⊢
      refine pu 1 19 ?_
      refine pu 3 21 ?_
      refine tk 0 18 ?_
      refine tk 2 20 ?_
      refine pu 4 22 ?_
      refine tk 5 23 ?_
      refine on 6 24 (fun K hK => ?_)
      refine gs Try.func64 #[.agg #[.slice (some T) G.length X, .slice Y M.length Z], .agg #[.int .i64 ((rd_T36 G z).f0), .int .i64 ((rd_T36 G z).f1)]] ?_
      with_reducible refine (spec_l2Near.calls k1 _ _ G _ _ M ((rd_T36 G z).f0) ((rd_T36 G z).f1) D _ ?av ?aw ?ax ?ay A9.out).mono ?_
      (case av => exact Kd.C_below au.out (bs HB.out))
      (case aw => exact aP.out)
      (case ax => exact Kd.C_below aQ.out (bs HB.out))
      (case ay => exact aR.out)
      rintro e b0 ⟨bO, rfl, bF, hb⟩
      refine ⟨_, rfl, ?_⟩
      have bP := am (Kd.R_lower bF (below_size (bs HB.out)))
      replace s := bb s hb rfl
      replace HB := hs HB hb
      (try clear hb)
      (try clear hb2)
      (try clear hk)
      (try clear hi)
      (try clear bF)
      refine hK.out _ _ ⟨cx s 0, cx s 1, (cb HB bE), (cb HB bD)⟩ (fun hHeld => ?_)
      clear hK K
      refine nrm 24 ?_
      refine pu 7 5 ?_
      refine dn ?_
      try go_wp2
      go_loopg [3, 6] k1 (fun kq v3 v6 w' => ∃ (aU : Int) (y : Int), v3 = .int .i64 aU ∧ v6 = .int .i64 y ∧ Aside0 (spec_WalkThrees.l1 kq aU z D y G M = some r) ∧ Aside0 (kq ≤ k1) ∧ Aside0 (Kd.R k36 36 w' w.heap.size (fun _ => True) bO D) ∧ Aside0 (w'.heap[ag]? = some (.cells #[(.slice (some T) G.length X), (.slice Y M.length Z)] 34 (0, 0))) ∧ Aside0 (Below w.heap.size w w'))
      case atStart => exact ⟨(a4), (0), eqs, eqs, H', ⟨Nat.le_refl _⟩, ⟨rl bP.out⟩, ⟨bf s.out⟩, ⟨bs HB.out⟩⟩
      case round =>
       clear H'
       try clear p2
       try clear q2
       try clear bQ
       try clear c3
       try clear c5
       try clear c6
       try clear c7
       try clear bh
       try clear c8
       try clear bw
       try clear bA bB
       try clear bc be
       try clear bC
       try clear bg
       try clear aJ
       try clear aK
       try clear p2
       try clear aS
       try clear aT
       obtain ⟨aU, y, rfl, rfl, HA, ar, J, s, HB⟩ := hrel
       cases gk with
       | zero => exact absurd HA.out (by simp [spec_WalkThrees.l1])
       | succ k2 =>
        have H := HA.out
        clear HA
        simp only [spec_WalkThrees.l1] at H
        by_cases aE : y < (D.length : Int)
        ·rw [if_pos aE] at H
         have bG : decide (y < (D.length : Int)) = true := decide_eq_true aE
         clear aE
         have H' := am H
         clear H
         obtain ⟨bR, bS, bT⟩ := Kd.R_slice J.out
         subst bT
         go_wp2
         go_loopg [3, 7] k2 (fun kq v3 v7 w' => ∃ (az : Int) (L : Int), v3 = .int .i64 az ∧ v7 = .int .i64 L ∧ Aside0 (spec_WalkThrees.l2 kq az z D y L G M = some r) ∧ Aside0 (kq ≤ k2) ∧ Aside0 (Kd.R k36 36 w' w.heap.size (fun _ => True) (.slice bR D.length bS) D) ∧ Aside0 (w'.heap[ag]? = some (.cells #[(.slice (some T) G.length X), (.slice Y M.length Z)] 34 (0, 0))) ∧ Aside0 (Below w.heap.size w w'))
         case atStart => exact ⟨(aU), (wrap64 (y + 1)), eqs, eqs, H', ⟨Nat.le_refl _⟩, ⟨rl J.out⟩, ⟨bf s.out⟩, ⟨bs HB.out⟩⟩
         case round =>
          clear H'
          try clear c1
          try clear p2
          try clear q2
          try clear bQ
          try clear c3
          try clear c5
          try clear c6
          try clear p6
          try clear c7
          try clear bh
          try clear c8
          try clear bw
          try clear aE
          try clear bG
          try clear bA bB
          try clear bc be
          try clear bC
          try clear bg
          try clear aJ
          try clear aK
          try clear p2
          try clear aS
          try clear q2
          try clear aT
          obtain ⟨az, L, rfl, rfl, HA, aA, J, s, HB⟩ := hrel
          cases gk with
          | zero => exact absurd HA.out (by simp [spec_WalkThrees.l2])
          | succ k3 =>
           have H := HA.out
           clear HA
           simp only [spec_WalkThrees.l2] at H
           by_cases aL : L < (D.length : Int)
           ·rw [if_pos aL] at H
            have bU : decide (L < (D.length : Int)) = true := decide_eq_true aL
            clear aL
            by_cases a5 : 0 ≤ z
            ·rw [if_pos a5] at H
             have b1 : decide (0 ≤ z) = true := decide_eq_true a5
             clear a5
             by_cases a6 : z < (G.length : Int)
             ·rw [if_pos a6] at H
              have b2 : decide (z < (G.length : Int)) = true := decide_eq_true a6
              clear a6
              replace H := Option.bind_eq_some_iff.mp H
              obtain ⟨aM, bH, H⟩ := H
              try dsimp -simprocs only at H
              have bi := am bH
              clear bH
              by_cases a7 : 0 ≤ y
              ·rw [if_pos a7] at H
               have b3 : decide (0 ≤ y) = true := decide_eq_true a7
               clear a7
               by_cases a8 : y < (D.length : Int)
               ·rw [if_pos a8] at H
                have b4 : decide (y < (D.length : Int)) = true := decide_eq_true a8
                clear a8
                replace H := Option.bind_eq_some_iff.mp H
                obtain ⟨aN, bI, H⟩ := H
                try dsimp -simprocs only at H
                have bj := am bI
                clear bI
                by_cases aO : aM < aN
                ·rw [if_pos aO] at H
                 have bV : decide (aM < aN) = true := decide_eq_true aO
                 clear aO
                 by_cases a9 : 0 ≤ L
                 ·rw [if_pos a9] at H
                  have b5 : decide (0 ≤ L) = true := decide_eq_true a9
                  clear a9
                  replace H := Option.bind_eq_some_iff.mp H
                  obtain ⟨bW, bJ, H⟩ := H
                  try dsimp -simprocs only at H
                  have bK := am bJ
                  clear bJ
                  by_cases ba : bW = true
                  ·subst ba
                   replace H : (spec_WalkThrees.l2 k3 (wrap64 (az + 1)) z D y (wrap64 (L + 1)) G M) = some r := by rw [if_pos rfl] at H; exact H
                   have H' := am H
                   clear H
                   try go_wp2
                   replace J := rd_ J
                   replace s := bd s
                   replace HB := hd HB
                   have ah : 0 ≤ (z : Int) := oda
                   have ai : z < (G.length : Int) := oda
                   obtain ⟨aV, aW, ac, ad⟩ := at_T36 au.out z ah ai
                   have ae := ad
                   have af := ac
                   obtain rfl : T = aV := (by injection aW)
                   replace ac := cb HB ac
                   replace ad := cb HB ad
                   replace ah := eq_true ah
                   replace ai := eq_true ai
                   have aj : 0 ≤ (y : Int) := oda
                   have ak : y < (D.length : Int) := oda
                   obtain ⟨O, aX, aB, aC⟩ := at_T36 (Kd.R_reads' J.out).2.2 y aj ak
                   cases aX
                   replace aj := eq_true aj
                   replace ak := eq_true ak
                   have aF : 0 ≤ (y : Int) := oda
                   have aG : y < (D.length : Int) := oda
                   obtain ⟨bk, bl, aY, aZ⟩ := at_T36 (Kd.R_reads' J.out).2.2 y aF aG
                   obtain rfl : O = bk := (by injection bl)
                   replace aF := eq_true aF
                   replace aG := eq_true aG
                   have aH : 0 ≤ (L : Int) := oda
                   have aI : L < (D.length : Int) := oda
                   obtain ⟨bm, bn, a2, a3⟩ := at_T36 (Kd.R_reads' J.out).2.2 L aH aI
                   obtain rfl : O = bm := (by injection bn)
                   replace aH := eq_true aH
                   replace aI := eq_true aI
                   refine sta 24 (fun w' => w'.cell? ⟨ag, 0, none⟩ = some (.slice (some T) G.length X) ∧ w'.cell? ⟨ag, 1, none⟩ = some (.slice Y M.length Z) ∧ w'.cell? (T.add ((z).toNat * 2)) = some (.int .i64 ((rd_T36 G z).f0)) ∧ w'.cell? ⟨(T.add ((z).toNat * 2)).block, (T.add ((z).toNat * 2)).off + 1, none⟩ = some (.int .i64 ((rd_T36 G z).f1)) ∧ w'.cell? (O.add ((y).toNat * 2)) = some (.int .i64 ((rd_T36 D y).f0)) ∧ w'.cell? ⟨(O.add ((y).toNat * 2)).block, (O.add ((y).toNat * 2)).off + 1, none⟩ = some (.int .i64 ((rd_T36 D y).f1)) ∧ w'.cell? (O.add ((y).toNat * 2)) = some (.int .i64 ((rd_T36 D y).f0)) ∧ w'.cell? ⟨(O.add ((y).toNat * 2)).block, (O.add ((y).toNat * 2)).off + 1, none⟩ = some (.int .i64 ((rd_T36 D y).f1)) ∧ w'.cell? (O.add ((L).toNat * 2)) = some (.int .i64 ((rd_T36 D L).f0)) ∧ w'.cell? ⟨(O.add ((L).toNat * 2)).block, (O.add ((L).toNat * 2)).off + 1, none⟩ = some (.int .i64 ((rd_T36 D L).f1))) [] ⟨cx s 0, cx s 1, (cb HB af), (cb HB ae), aB, aC, aY, aZ, a2, a3⟩ (fun hHeld => ?_); refine with_tabW spec_WalkThrees.tab14 spec_WalkThrees.bits14 (fun HT_ HW_ => ?_)
                   generalize wr.drew = b6 at J s HB ac ad aB aC aY aZ a2 a3 hHeld ⊢
                   refine pu 0 39 ?_
                   refine pu 2 41 ?_
                   refine pu 6 45 ?_
                   refine pu 7 46 ?_
                   refine pu 8 47 ?_
                   refine tk 1 40 ?_
                   refine pu 3 42 ?_
                   refine tk 4 43 ?_
                   refine tk 9 48 ?_
                   refine on 5 44 (fun K hK => ?_)
                   refine gs Try.func76 #[.agg #[.int .i64 ((rd_T36 G z).f0), .int .i64 ((rd_T36 G z).f1)]] ?_
                   with_reducible refine (spec_l2Code.calls ((rd_T36 G z).f0) ((rd_T36 G z).f1) aM _ bi.out).mono ?_
                   rintro e b7 ⟨rfl, hb⟩
                   have aa := cw hb hHeld.2.2.2.2.1
                   have ab := cw hb hHeld.2.2.2.2.2.1
                   have al := cw hb hHeld.2.2.2.2.2.2.1
                   have an := cw hb hHeld.2.2.2.2.2.2.2.1
                   have ao := cw hb hHeld.2.2.2.2.2.2.2.2.1
                   have ap := cw hb hHeld.2.2.2.2.2.2.2.2.2
                   refine ⟨_, rfl, ?_⟩
                   replace J := rb J hb
                   replace s := bb s hb rfl
                   replace HB := hs HB hb
                   (try clear hb)
                   (try clear hb2)
                   (try clear hk)
                   (try clear hi)
                   refine hK.out _ _ ⟨cx s 0, cx s 1, (cb HB af), (cb HB ae), aa, ab, al, an, ao, ap⟩ (fun hHeld => ?_)
                   clear hK K
                   refine nrm 44 ?_
                   refine on 10 49 (fun K hK => ?_)
                   refine gs Try.func76 #[.agg #[.int .i64 ((rd_T36 D y).f0), .int .i64 ((rd_T36 D y).f1)]] ?_
                   with_reducible refine (spec_l2Code.calls ((rd_T36 D y).f0) ((rd_T36 D y).f1) aN _ bj.out).mono ?_
                   rintro e b8 ⟨rfl, hb⟩
                   have aa := cw hb hHeld.2.2.2.2.1
                   have ab := cw hb hHeld.2.2.2.2.2.1
                   have al := cw hb hHeld.2.2.2.2.2.2.1
                   have an := cw hb hHeld.2.2.2.2.2.2.2.1
                   have ao := cw hb hHeld.2.2.2.2.2.2.2.2.1
                   have ap := cw hb hHeld.2.2.2.2.2.2.2.2.2
                   refine ⟨_, rfl, ?_⟩
                   replace J := rb J hb
                   replace s := bb s hb rfl
                   replace HB := hs HB hb
                   (try clear hb)
                   (try clear hb2)
                   (try clear hk)
                   (try clear hi)
                   refine hK.out _ _ ⟨cx s 0, cx s 1, (cb HB af), (cb HB ae), aa, ab, al, an, ao, ap⟩ (fun hHeld => ?_)
                   clear hK K
                   refine nrm 49 ?_
                   refine pu 11 50 ?_
                   refine pu 12 51 ?_
                   refine pu 14 53 ?_
                   refine pu 15 54 ?_
                   refine pu 16 55 ?_
                   refine pu 18 57 ?_
                   refine pu 19 58 ?_
                   refine pu 20 59 ?_
                   refine tk 13 52 ?_
                   refine tk 17 56 ?_
                   refine tk 21 60 ?_
                   refine on 22 61 (fun K hK => ?_)
                   refine gs Try.func107 #[.agg #[.slice (some T) G.length X, .slice Y M.length Z], .agg #[.int .i64 ((rd_T36 D y).f0), .int .i64 ((rd_T36 D y).f1)], .agg #[.int .i64 ((rd_T36 D L).f0), .int .i64 ((rd_T36 D L).f1)]] ?_
                   with_reducible refine (spec_l3Joined.calls k3 _ _ G _ _ M ((rd_T36 D y).f0) ((rd_T36 D y).f1) ((rd_T36 D L).f0) ((rd_T36 D L).f1) true _ ?av ?aw ?ax ?ay bK.out).mono ?_
                   (case av => exact Kd.C_below au.out (bs HB.out))
                   (case aw => exact aP.out)
                   (case ax => exact Kd.C_below aQ.out (bs HB.out))
                   (case ay => exact aR.out)
                   rintro e b9 ⟨rfl, hb⟩
                   have aa := cw hb hHeld.2.2.2.2.1
                   have ab := cw hb hHeld.2.2.2.2.2.1
                   have al := cw hb hHeld.2.2.2.2.2.2.1
                   have an := cw hb hHeld.2.2.2.2.2.2.2.1
                   have ao := cw hb hHeld.2.2.2.2.2.2.2.2.1
                   have ap := cw hb hHeld.2.2.2.2.2.2.2.2.2
                   refine ⟨_, rfl, ?_⟩
                   replace J := rb J hb
                   replace s := bb s hb rfl
                   replace HB := hs HB hb
                   (try clear hb)
                   (try clear hb2)
                   (try clear hk)
                   (try clear hi)
                   refine hK.out _ _ ⟨cx s 0, cx s 1, (cb HB af), (cb HB ae), aa, ab, al, an, ao, ap⟩ (fun hHeld => ?_)
                   clear hK K
                   refine nrm 61 ?_
                   refine pu 23 62 ?_
                   refine dn ?_
                   try go_wp2
                   go_roundg k3
                   case measure => have := aq.out; have := ar.out; have := aA.out; omega
                   case rel => exact ⟨(wrap64 (az + 1)), (wrap64 (L + 1)), eqs, eqs, H', ⟨by have := aq.out; have := ar.out; have := aA.out; omega⟩, ⟨rl J.out⟩, ⟨bf s.out⟩, ⟨bs HB.out⟩⟩
                  ·replace ba := Bool.eq_false_iff.mpr ba
                   subst ba
                   have H1 : (spec_WalkThrees.l2 k3 az z D y (wrap64 (L + 1)) G M) = some r := by rw [if_neg (show ¬ (false = true) by decide)] at H; exact H
                   clear H
                   have H := H1
                   clear H1
                   have H' := am H
                   clear H
                   try go_wp2
                   replace J := rd_ J
                   replace s := bd s
                   replace HB := hd HB
                   have ah : 0 ≤ (z : Int) := oda
                   have ai : z < (G.length : Int) := oda
                   obtain ⟨aV, aW, ac, ad⟩ := at_T36 au.out z ah ai
                   have ae := ad
                   have af := ac
                   obtain rfl : T = aV := (by injection aW)
                   replace ac := cb HB ac
                   replace ad := cb HB ad
                   replace ah := eq_true ah
                   replace ai := eq_true ai
                   have aj : 0 ≤ (y : Int) := oda
                   have ak : y < (D.length : Int) := oda
                   obtain ⟨O, aX, aB, aC⟩ := at_T36 (Kd.R_reads' J.out).2.2 y aj ak
                   cases aX
                   replace aj := eq_true aj
                   replace ak := eq_true ak
                   have aF : 0 ≤ (y : Int) := oda
                   have aG : y < (D.length : Int) := oda
                   obtain ⟨bk, bl, aY, aZ⟩ := at_T36 (Kd.R_reads' J.out).2.2 y aF aG
                   obtain rfl : O = bk := (by injection bl)
                   replace aF := eq_true aF
                   replace aG := eq_true aG
                   have aH : 0 ≤ (L : Int) := oda
                   have aI : L < (D.length : Int) := oda
                   obtain ⟨bm, bn, a2, a3⟩ := at_T36 (Kd.R_reads' J.out).2.2 L aH aI
                   obtain rfl : O = bm := (by injection bn)
                   replace aH := eq_true aH
                   replace aI := eq_true aI
                   refine sta 24 (fun w' => w'.cell? ⟨ag, 0, none⟩ = some (.slice (some T) G.length X) ∧ w'.cell? ⟨ag, 1, none⟩ = some (.slice Y M.length Z) ∧ w'.cell? (T.add ((z).toNat * 2)) = some (.int .i64 ((rd_T36 G z).f0)) ∧ w'.cell? ⟨(T.add ((z).toNat * 2)).block, (T.add ((z).toNat * 2)).off + 1, none⟩ = some (.int .i64 ((rd_T36 G z).f1)) ∧ w'.cell? (O.add ((y).toNat * 2)) = some (.int .i64 ((rd_T36 D y).f0)) ∧ w'.cell? ⟨(O.add ((y).toNat * 2)).block, (O.add ((y).toNat * 2)).off + 1, none⟩ = some (.int .i64 ((rd_T36 D y).f1)) ∧ w'.cell? (O.add ((y).toNat * 2)) = some (.int .i64 ((rd_T36 D y).f0)) ∧ w'.cell? ⟨(O.add ((y).toNat * 2)).block, (O.add ((y).toNat * 2)).off + 1, none⟩ = some (.int .i64 ((rd_T36 D y).f1)) ∧ w'.cell? (O.add ((L).toNat * 2)) = some (.int .i64 ((rd_T36 D L).f0)) ∧ w'.cell? ⟨(O.add ((L).toNat * 2)).block, (O.add ((L).toNat * 2)).off + 1, none⟩ = some (.int .i64 ((rd_T36 D L).f1))) [] ⟨cx s 0, cx s 1, (cb HB af), (cb HB ae), aB, aC, aY, aZ, a2, a3⟩ (fun hHeld => ?_); refine with_tabW spec_WalkThrees.tab14 spec_WalkThrees.bits14 (fun HT_ HW_ => ?_)
                   generalize wr.drew = ce at J s HB ac ad aB aC aY aZ a2 a3 hHeld ⊢
                   refine pu 0 39 ?_
                   refine pu 2 41 ?_
                   refine pu 6 45 ?_
                   refine pu 7 46 ?_
                   refine pu 8 47 ?_
                   refine tk 1 40 ?_
                   refine pu 3 42 ?_
                   refine tk 4 43 ?_
                   refine tk 9 48 ?_
                   refine on 5 44 (fun K hK => ?_)
                   refine gs Try.func76 #[.agg #[.int .i64 ((rd_T36 G z).f0), .int .i64 ((rd_T36 G z).f1)]] ?_
                   with_reducible refine (spec_l2Code.calls ((rd_T36 G z).f0) ((rd_T36 G z).f1) aM _ bi.out).mono ?_
                   rintro e cf ⟨rfl, hb⟩
                   have aa := cw hb hHeld.2.2.2.2.1
                   have ab := cw hb hHeld.2.2.2.2.2.1
                   have al := cw hb hHeld.2.2.2.2.2.2.1
                   have an := cw hb hHeld.2.2.2.2.2.2.2.1
                   have ao := cw hb hHeld.2.2.2.2.2.2.2.2.1
                   have ap := cw hb hHeld.2.2.2.2.2.2.2.2.2
                   refine ⟨_, rfl, ?_⟩
                   replace J := rb J hb
                   replace s := bb s hb rfl
                   replace HB := hs HB hb
                   (try clear hb)
                   (try clear hb2)
                   (try clear hk)
                   (try clear hi)
                   refine hK.out _ _ ⟨cx s 0, cx s 1, (cb HB af), (cb HB ae), aa, ab, al, an, ao, ap⟩ (fun hHeld => ?_)
                   clear hK K
                   refine nrm 44 ?_
                   refine on 10 49 (fun K hK => ?_)
                   refine gs Try.func76 #[.agg #[.int .i64 ((rd_T36 D y).f0), .int .i64 ((rd_T36 D y).f1)]] ?_
                   with_reducible refine (spec_l2Code.calls ((rd_T36 D y).f0) ((rd_T36 D y).f1) aN _ bj.out).mono ?_
                   rintro e cg ⟨rfl, hb⟩
                   have aa := cw hb hHeld.2.2.2.2.1
                   have ab := cw hb hHeld.2.2.2.2.2.1
                   have al := cw hb hHeld.2.2.2.2.2.2.1
                   have an := cw hb hHeld.2.2.2.2.2.2.2.1
                   have ao := cw hb hHeld.2.2.2.2.2.2.2.2.1
                   have ap := cw hb hHeld.2.2.2.2.2.2.2.2.2
                   refine ⟨_, rfl, ?_⟩
                   replace J := rb J hb
                   replace s := bb s hb rfl
                   replace HB := hs HB hb
                   (try clear hb)
                   (try clear hb2)
                   (try clear hk)
                   (try clear hi)
                   refine hK.out _ _ ⟨cx s 0, cx s 1, (cb HB af), (cb HB ae), aa, ab, al, an, ao, ap⟩ (fun hHeld => ?_)
                   clear hK K
                   refine nrm 49 ?_
                   refine pu 11 50 ?_
                   refine pu 12 51 ?_
                   refine pu 14 53 ?_
                   refine pu 15 54 ?_
                   refine pu 16 55 ?_
                   refine pu 18 57 ?_
                   refine pu 19 58 ?_
                   refine pu 20 59 ?_
                   refine tk 13 52 ?_
                   refine tk 17 56 ?_
                   refine tk 21 60 ?_
                   refine on 22 61 (fun K hK => ?_)
                   refine gs Try.func107 #[.agg #[.slice (some T) G.length X, .slice Y M.length Z], .agg #[.int .i64 ((rd_T36 D y).f0), .int .i64 ((rd_T36 D y).f1)], .agg #[.int .i64 ((rd_T36 D L).f0), .int .i64 ((rd_T36 D L).f1)]] ?_
                   with_reducible refine (spec_l3Joined.calls k3 _ _ G _ _ M ((rd_T36 D y).f0) ((rd_T36 D y).f1) ((rd_T36 D L).f0) ((rd_T36 D L).f1) false _ ?av ?aw ?ax ?ay bK.out).mono ?_
                   (case av => exact Kd.C_below au.out (bs HB.out))
                   (case aw => exact aP.out)
                   (case ax => exact Kd.C_below aQ.out (bs HB.out))
                   (case ay => exact aR.out)
                   rintro e ch ⟨rfl, hb⟩
                   have aa := cw hb hHeld.2.2.2.2.1
                   have ab := cw hb hHeld.2.2.2.2.2.1
                   have al := cw hb hHeld.2.2.2.2.2.2.1
                   have an := cw hb hHeld.2.2.2.2.2.2.2.1
                   have ao := cw hb hHeld.2.2.2.2.2.2.2.2.1
                   have ap := cw hb hHeld.2.2.2.2.2.2.2.2.2
                   refine ⟨_, rfl, ?_⟩
                   replace J := rb J hb
                   replace s := bb s hb rfl
                   replace HB := hs HB hb
                   (try clear hb)
                   (try clear hb2)
                   (try clear hk)
                   (try clear hi)
                   refine hK.out _ _ ⟨cx s 0, cx s 1, (cb HB af), (cb HB ae), aa, ab, al, an, ao, ap⟩ (fun hHeld => ?_)
                   clear hK K
                   refine nrm 61 ?_
                   refine pu 23 62 ?_
                   refine dn ?_
                   try go_wp2
                   go_roundg k3
                   case measure => have := aq.out; have := ar.out; have := aA.out; omega
                   case rel => exact ⟨(az), (wrap64 (L + 1)), eqs, eqs, H', ⟨by have := aq.out; have := ar.out; have := aA.out; omega⟩, ⟨rl J.out⟩, ⟨bf s.out⟩, ⟨bs HB.out⟩⟩
                 ·rw [if_neg a9] at H
                  exact absurd H (by simp)
                ·rw [if_neg aO] at H
                 have bV : decide (aM < aN) = false := decide_eq_false aO
                 clear aO
                 have H' := am H
                 clear H
                 try go_wp2
                 replace J := rd_ J
                 replace s := bd s
                 replace HB := hd HB
                 have ah : 0 ≤ (z : Int) := oda
                 have ai : z < (G.length : Int) := oda
                 obtain ⟨aV, aW, ac, ad⟩ := at_T36 au.out z ah ai
                 have ae := ad
                 have af := ac
                 obtain rfl : T = aV := (by injection aW)
                 replace ac := cb HB ac
                 replace ad := cb HB ad
                 replace ah := eq_true ah
                 replace ai := eq_true ai
                 have aj : 0 ≤ (y : Int) := oda
                 have ak : y < (D.length : Int) := oda
                 obtain ⟨O, aX, aB, aC⟩ := at_T36 (Kd.R_reads' J.out).2.2 y aj ak
                 cases aX
                 replace aj := eq_true aj
                 replace ak := eq_true ak
                 refine sta 24 (fun w' => w'.cell? ⟨ag, 0, none⟩ = some (.slice (some T) G.length X) ∧ w'.cell? ⟨ag, 1, none⟩ = some (.slice Y M.length Z) ∧ w'.cell? (T.add ((z).toNat * 2)) = some (.int .i64 ((rd_T36 G z).f0)) ∧ w'.cell? ⟨(T.add ((z).toNat * 2)).block, (T.add ((z).toNat * 2)).off + 1, none⟩ = some (.int .i64 ((rd_T36 G z).f1)) ∧ w'.cell? (O.add ((y).toNat * 2)) = some (.int .i64 ((rd_T36 D y).f0)) ∧ w'.cell? ⟨(O.add ((y).toNat * 2)).block, (O.add ((y).toNat * 2)).off + 1, none⟩ = some (.int .i64 ((rd_T36 D y).f1))) [] ⟨cx s 0, cx s 1, (cb HB af), (cb HB ae), aB, aC⟩ (fun hHeld => ?_); refine with_tabW spec_WalkThrees.tab14 spec_WalkThrees.bits14 (fun HT_ HW_ => ?_)
                 generalize wr.drew = ci at J s HB ac ad aB aC hHeld ⊢
                 refine pu 0 39 ?_
                 refine pu 2 41 ?_
                 refine pu 6 45 ?_
                 refine pu 7 46 ?_
                 refine pu 8 47 ?_
                 refine tk 1 40 ?_
                 refine pu 3 42 ?_
                 refine tk 4 43 ?_
                 refine tk 9 48 ?_
                 refine on 5 44 (fun K hK => ?_)
                 refine gs Try.func76 #[.agg #[.int .i64 ((rd_T36 G z).f0), .int .i64 ((rd_T36 G z).f1)]] ?_
                 with_reducible refine (spec_l2Code.calls ((rd_T36 G z).f0) ((rd_T36 G z).f1) aM _ bi.out).mono ?_
                 rintro e cj ⟨rfl, hb⟩
                 have aa := cw hb hHeld.2.2.2.2.1
                 have ab := cw hb hHeld.2.2.2.2.2
                 refine ⟨_, rfl, ?_⟩
                 replace J := rb J hb
                 replace s := bb s hb rfl
                 replace HB := hs HB hb
                 (try clear hb)
                 (try clear hb2)
                 (try clear hk)
                 (try clear hi)
                 refine hK.out _ _ ⟨cx s 0, cx s 1, (cb HB af), (cb HB ae), aa, ab⟩ (fun hHeld => ?_)
                 clear hK K
                 refine nrm 44 ?_
                 refine on 10 49 (fun K hK => ?_)
                 refine gs Try.func76 #[.agg #[.int .i64 ((rd_T36 D y).f0), .int .i64 ((rd_T36 D y).f1)]] ?_
                 with_reducible refine (spec_l2Code.calls ((rd_T36 D y).f0) ((rd_T36 D y).f1) aN _ bj.out).mono ?_
                 rintro e ck ⟨rfl, hb⟩
                 have aa := cw hb hHeld.2.2.2.2.1
                 have ab := cw hb hHeld.2.2.2.2.2
                 refine ⟨_, rfl, ?_⟩
                 replace J := rb J hb
                 replace s := bb s hb rfl
                 replace HB := hs HB hb
                 (try clear hb)
                 (try clear hb2)
                 (try clear hk)
                 (try clear hi)
                 refine hK.out _ _ ⟨cx s 0, cx s 1, (cb HB af), (cb HB ae), aa, ab⟩ (fun hHeld => ?_)
                 clear hK K
                 refine nrm 49 ?_
                 refine pu 11 50 ?_
                 refine pu 12 51 ?_
                 refine ud 13 52 ?_
                 refine ud 14 53 ?_
                 refine ud 15 54 ?_
                 refine ud 16 55 ?_
                 refine ud 17 56 ?_
                 refine ud 18 57 ?_
                 refine ud 19 58 ?_
                 refine ud 20 59 ?_
                 refine ud 21 60 ?_
                 refine ud 22 61 ?_
                 refine pu 23 62 ?_
                 refine dn ?_
                 try go_wp2
                 go_roundg k3
                 case measure => have := aq.out; have := ar.out; have := aA.out; omega
                 case rel => exact ⟨(az), (wrap64 (L + 1)), eqs, eqs, H', ⟨by have := aq.out; have := ar.out; have := aA.out; omega⟩, ⟨rl J.out⟩, ⟨bf s.out⟩, ⟨bs HB.out⟩⟩
               ·rw [if_neg a8] at H
                exact absurd H (by simp)
              ·rw [if_neg a7] at H
               exact absurd H (by simp)
             ·rw [if_neg a6] at H
              exact absurd H (by simp)
            ·rw [if_neg a5] at H
             exact absurd H (by simp)
           ·rw [if_neg aL] at H
            have bU : decide (L < (D.length : Int)) = false := decide_eq_false aL
            clear aL
            have H' := am H
            clear H
            go_wp2
            go_roundg k3
            case measure => have := aq.out; have := ar.out; have := aA.out; omega
            case rel => exact ⟨(az), (wrap64 (y + 1)), eqs, eqs, H', ⟨by have := aq.out; have := ar.out; have := aA.out; omega⟩, ⟨rl J.out⟩, ⟨bf s.out⟩, ⟨bs HB.out⟩⟩
        ·rw [if_neg aE] at H
         have bG : decide (y < (D.length : Int)) = false := decide_eq_false aE
         clear aE
         have H' := am H
         clear H
         obtain ⟨cl, cm, bX⟩ := Kd.R_slice J.out
         subst bX
         go_wp2
         go_roundg k2
         case measure => have := aq.out; have := ar.out; omega
         case rel => exact ⟨(aU), (wrap64 (z + 1)), eqs, eqs, H', ⟨by have := aq.out; have := ar.out; omega⟩, ⟨bf s.out⟩, ⟨bs HB.out⟩⟩
     ·rw [if_neg c8] at H
      exact absurd H (by simp)
    ·rw [if_neg c7] at H
     have bh : decide (z < (G.length : Int)) = false := decide_eq_false c7
     clear c7
     obtain rfl := Option.some.inj H
     obtain ⟨cn, co⟩ := bc2 (w := wr) s.out
     have cp := blk_frozen s.out
     go_wp2
     go_ret
     exact ⟨eqr, bs HB.out⟩
 ·replace c3 := Bool.eq_false_iff.mpr c3
  subst c3
  have H1 : (some 0) = some r := by rw [if_neg (show ¬ (false = true) by decide)] at H; exact H
  clear H
  have H := H1
  clear H1
  obtain rfl := Option.some.inj H
  go_enter Try.func56, Try.ntmps56
  go_wp2_with (first | ((with_reducible refine gd 1 rfl ?_); refine bx 1 (cs := #[.slice aD G.length X, .slice Y M.length Z]) (t := 34) ?_; intro ag hg bY hbox hb; have s := am hbox; have bM := gwb HB hg; replace HB := hs HB hb; clear hb hbox hg; obtain ⟨ct, cu⟩ := bc2 (w := bY) s.out; have cv := blk_frozen s.out) | ((with_reducible refine gc 33 rfl ?_); refine gl 9 Try.func33 #[.agg #[.slice aD G.length X, .slice Y M.length Z]] ?_; (with_reducible refine (spec_GraphOk.calls k _ _ G _ _ M false _ ?av ?aw ?ax ?ay A2.out).mono ?_); (case av => exact Kd.C_below au.out (bs HB.out)); (case aw => exact aP.out); (case ax => exact Kd.C_below aQ.out (bs HB.out)); (case ay => exact aR.out); rintro e cy ⟨rfl, hb⟩; refine ⟨_, rfl, ?_⟩; replace s := bb s hb rfl; replace HB := hs HB hb; (try clear hb)))
  go_ret
  exact ⟨eqr, bs HB.out⟩

/-! ### impl_LabelOk: function 46 -/
def impl_LabelOk.f (s : Int) : Option (Bool) := if 0 ≤ s then (some (decide (s ≤ 7))) else (some false)
theorem impl_LabelOk.calls (s : Int) (r : Bool) (w : World) (h : impl_LabelOk.f s = some r) :
  Calls Try.prog 46 #[.int .i64 s] w fun e w' => e = .returned (.bool r) ∧ Drawn0 w w' := by
 have H := h; unfold impl_LabelOk.f at H
 clear h
 by_cases c2 : 0 ≤ s
 ·rw [if_pos c2] at H
  have y : decide (0 ≤ s) = true := decide_eq_true c2
  clear c2
  obtain rfl := Option.some.inj H
  go_enter Try.func46, Try.ntmps46
  go_wp2
  go_ret
  exact ⟨eqs, drs⟩
 ·rw [if_neg c2] at H
  have y : decide (0 ≤ s) = false := decide_eq_false c2
  clear c2
  obtain rfl := Option.some.inj H
  go_enter Try.func46, Try.ntmps46
  go_wp2
  go_ret
  exact ⟨eqs, drs⟩

/-! ### impl_letters_under: function 95 -/
def impl_letters_under.f (s : Int) (y : Int) : Option (Bool) := some ((Go.bits .andNot .u8 s y) == 0)
theorem impl_letters_under.calls (s : Int) (y : Int) (r : Bool) (w : World) (h : impl_letters_under.f s y = some r) :
  Calls Try.prog 95 #[.int .u8 s, .int .u8 y] w fun e w' => e = .returned (.bool r) ∧ Drawn0 w w' := by
 have H := h; unfold impl_letters_under.f at H
 clear h
 obtain rfl := Option.some.inj H
 go_enter Try.func95, Try.ntmps95
 go_wp2
 go_ret
 exact ⟨eqs, drs⟩

/-! ### impl_LabelUnder: function 47 -/
def impl_LabelUnder.f (s : Int) (y : Int) : Option (Bool) := (impl_LabelOk.f s).bind fun z => (if z = true then ((impl_LabelOk.f y).bind fun D => (if D = true then ((impl_letters_under.f ((s) % 256) ((y) % 256)).bind fun G => (some G)) else (some false))) else (some false))
theorem impl_LabelUnder.calls (s : Int) (y : Int) (r : Bool) (w : World) (h : impl_LabelUnder.f s y = some r) :
  Calls Try.prog 47 #[.int .i64 s, .int .i64 y] w fun e w' => e = .returned (.bool r) ∧ Drawn0 w w' := by
 have H := h; unfold impl_LabelUnder.f at H
 clear h
 replace H := Option.bind_eq_some_iff.mp H
 obtain ⟨Y, M, H⟩ := H
 try dsimp -simprocs only at H
 have J := am M
 clear M
 by_cases G : Y = true
 ·subst G
  replace H : ((impl_LabelOk.f y).bind fun L => (if L = true then ((impl_letters_under.f ((s) % 256) ((y) % 256)).bind fun z => (some z)) else (some false))) = some r := by rw [if_pos rfl] at H; exact H
  replace H := Option.bind_eq_some_iff.mp H
  obtain ⟨L, O, H⟩ := H
  try dsimp -simprocs only at H
  have T := am O
  clear O
  by_cases I : L = true
  ·subst I
   replace H : ((impl_letters_under.f ((s) % 256) ((y) % 256)).bind fun z => (some z)) = some r := by rw [if_pos rfl] at H; exact H
   replace H := Option.bind_eq_some_iff.mp H
   obtain ⟨z, X, H⟩ := H
   try dsimp -simprocs only at H
   have Z := am X
   clear X
   obtain rfl := Option.some.inj H
   go_enter Try.func47, Try.ntmps47
   go_wp2_with (first | ((with_reducible refine gc 46 rfl ?_); refine gl 6 Try.func46 #[.int .i64 s] ?_; (with_reducible refine (impl_LabelOk.calls s true _ J.out).mono ?_); rintro e w' ⟨rfl, ⟨nd, rfl⟩⟩; refine ⟨_, rfl, ?_⟩) | (go_at_call 46; (with_reducible refine (impl_LabelOk.calls y true _ T.out).mono ?_); rintro e w' ⟨rfl, ⟨nd, rfl⟩⟩) | (go_at_call 95; (with_reducible refine (impl_letters_under.calls ((s) % 256) ((y) % 256) z _ Z.out).mono ?_); rintro e w' ⟨rfl, ⟨nd, rfl⟩⟩))
   go_ret
   exact ⟨eqs, drs⟩
  ·replace I := Bool.eq_false_iff.mpr I
   subst I
   have H1 : (some false) = some r := by rw [if_neg (show ¬ (false = true) by decide)] at H; exact H
   clear H
   have H := H1
   clear H1
   obtain rfl := Option.some.inj H
   go_enter Try.func47, Try.ntmps47
   go_wp2_with (first | ((with_reducible refine gc 46 rfl ?_); refine gl 6 Try.func46 #[.int .i64 s] ?_; (with_reducible refine (impl_LabelOk.calls s true _ J.out).mono ?_); rintro e w' ⟨rfl, ⟨nd, rfl⟩⟩; refine ⟨_, rfl, ?_⟩) | (go_at_call 46; (with_reducible refine (impl_LabelOk.calls y false _ T.out).mono ?_); rintro e w' ⟨rfl, ⟨nd, rfl⟩⟩))
   go_ret
   exact ⟨eqs, drs⟩
 ·replace G := Bool.eq_false_iff.mpr G
  subst G
  have H1 : (some false) = some r := by rw [if_neg (show ¬ (false = true) by decide)] at H; exact H
  clear H
  have H := H1
  clear H1
  obtain rfl := Option.some.inj H
  go_enter Try.func47, Try.ntmps47
  go_wp2_with (first | ((with_reducible refine gc 46 rfl ?_); refine gl 6 Try.func46 #[.int .i64 s] ?_; (with_reducible refine (impl_LabelOk.calls s false _ J.out).mono ?_); rintro e w' ⟨rfl, ⟨nd, rfl⟩⟩; refine ⟨_, rfl, ?_⟩))
  go_ret
  exact ⟨eqs, drs⟩

/-! ### impl_NodeOk: function 92 -/
def impl_NodeOk.f (y : Int) (s : Int) : Option (Bool) := (impl_LabelOk.f y).bind fun z => (if z = true then (if 0 ≤ s then (some (decide (s ≤ 40))) else (some false)) else (some false))
theorem impl_NodeOk.calls (s : Int) (y : Int) (r : Bool) (w : World) (h : impl_NodeOk.f s y = some r) :
  Calls Try.prog 92 #[.agg #[.int .i64 s, .int .i64 y]] w fun e w' => e = .returned (.bool r) ∧ Below w.heap.size w w' := by
 have hu36 := Try.underlying36
 have HB := am (Below.refl w.heap.size w)
 have H := h; unfold impl_NodeOk.f at H
 clear h
 replace H := Option.bind_eq_some_iff.mp H
 obtain ⟨T, L, H⟩ := H
 try dsimp -simprocs only at H
 have J := am L
 clear L
 by_cases I : T = true
 ·subst I
  replace H : (if 0 ≤ y then (some (decide (y ≤ 40))) else (some false)) = some r := by rw [if_pos rfl] at H; exact H
  by_cases G : 0 ≤ y
  ·rw [if_pos G] at H
   have X : decide (0 ≤ y) = true := decide_eq_true G
   clear G
   obtain rfl := Option.some.inj H
   go_enter Try.func92, Try.ntmps92
   go_wp2_with (first | ((with_reducible refine gd 1 rfl ?_); refine bx 1 (cs := #[.int .i64 s, .int .i64 y]) (t := 36) ?_; intro M hg Y hbox hb; have D := am hbox; have O := gwb HB hg; replace HB := hs HB hb; clear hb hbox hg; obtain ⟨aa, ab⟩ := bc2 (w := Y) D.out; have ac := blk_frozen D.out) | ((with_reducible refine gc 46 rfl ?_); refine gl 5 Try.func46 #[.int .i64 s] ?_; (with_reducible refine (impl_LabelOk.calls s true _ J.out).mono ?_); rintro e w' ⟨rfl, ⟨nd, rfl⟩⟩; refine ⟨_, rfl, ?_⟩))
   go_ret
   exact ⟨eqr, bs HB.out⟩
  ·rw [if_neg G] at H
   have X : decide (0 ≤ y) = false := decide_eq_false G
   clear G
   obtain rfl := Option.some.inj H
   go_enter Try.func92, Try.ntmps92
   go_wp2_with (first | ((with_reducible refine gd 1 rfl ?_); refine bx 1 (cs := #[.int .i64 s, .int .i64 y]) (t := 36) ?_; intro M hg Z hbox hb; have D := am hbox; have O := gwb HB hg; replace HB := hs HB hb; clear hb hbox hg; obtain ⟨ad, ae⟩ := bc2 (w := Z) D.out; have af := blk_frozen D.out) | ((with_reducible refine gc 46 rfl ?_); refine gl 5 Try.func46 #[.int .i64 s] ?_; (with_reducible refine (impl_LabelOk.calls s true _ J.out).mono ?_); rintro e w' ⟨rfl, ⟨nd, rfl⟩⟩; refine ⟨_, rfl, ?_⟩))
   go_ret
   exact ⟨eqr, bs HB.out⟩
 ·replace I := Bool.eq_false_iff.mpr I
  subst I
  have H1 : (some false) = some r := by rw [if_neg (show ¬ (false = true) by decide)] at H; exact H
  clear H
  have H := H1
  clear H1
  obtain rfl := Option.some.inj H
  go_enter Try.func92, Try.ntmps92
  go_wp2_with (first | ((with_reducible refine gd 1 rfl ?_); refine bx 1 (cs := #[.int .i64 s, .int .i64 y]) (t := 36) ?_; intro M hg w9 hbox hb; have D := am hbox; have O := gwb HB hg; replace HB := hs HB hb; clear hb hbox hg; obtain ⟨ag, ah⟩ := bc2 (w := w9) D.out; have ai := blk_frozen D.out) | ((with_reducible refine gc 46 rfl ?_); refine gl 5 Try.func46 #[.int .i64 s] ?_; (with_reducible refine (impl_LabelOk.calls s false _ J.out).mono ?_); rintro e w' ⟨rfl, ⟨nd, rfl⟩⟩; refine ⟨_, rfl, ?_⟩))
  go_ret
  exact ⟨eqr, bs HB.out⟩

/-! ### impl_NodeCode: function 116 -/
def impl_NodeCode.f (s : Int) (y : Int) : Option (Int) := (impl_NodeOk.f s y).bind fun z => (if z = true then (some (wrap64 ((wrap64 (64 * s)) + y))) else (some (-1)))
theorem impl_NodeCode.calls (z : Int) (D : Int) (r : Int) (w : World) (h : impl_NodeCode.f z D = some r) :
  Calls Try.prog 116 #[.agg #[.int .i64 z, .int .i64 D]] w fun e w' => e = .returned (.int .i64 r) ∧ Below w.heap.size w w' := by
 have hu36 := Try.underlying36
 have HB := am (Below.refl w.heap.size w)
 have H := h; unfold impl_NodeCode.f at H
 clear h
 replace H := Option.bind_eq_some_iff.mp H
 obtain ⟨L, I, H⟩ := H
 try dsimp -simprocs only at H
 have J := am I
 clear I
 by_cases G : L = true
 ·subst G
  replace H : (some (wrap64 ((wrap64 (64 * z)) + D))) = some r := by rw [if_pos rfl] at H; exact H
  obtain rfl := Option.some.inj H
  go_enter Try.func116, Try.ntmps116
  go_wp2_with (first | ((with_reducible refine gd 1 rfl ?_); refine bx 1 (cs := #[.int .i64 z, .int .i64 D]) (t := 36) ?_; intro M hg O hbox hb; have s := am hbox; have T := gwb HB hg; replace HB := hs HB hb; clear hb hbox hg; obtain ⟨Z, aa⟩ := bc2 (w := O) s.out; have ab := blk_frozen s.out) | ((with_reducible refine gc 92 rfl ?_); refine gl 4 Try.func92 #[.agg #[.int .i64 z, .int .i64 D]] ?_; (with_reducible refine (impl_NodeOk.calls z D true _ J.out).mono ?_); rintro e X ⟨rfl, hb⟩; refine ⟨_, rfl, ?_⟩; replace s := bb s hb rfl; replace HB := hs HB hb; (try clear hb); obtain ⟨ac, ad⟩ := bc2 (w := X) s.out; have ae := blk_frozen s.out))
  go_ret
  exact ⟨eqr, bs HB.out⟩
 ·replace G := Bool.eq_false_iff.mpr G
  subst G
  have H1 : (some (-1)) = some r := by rw [if_neg (show ¬ (false = true) by decide)] at H; exact H
  clear H
  have H := H1
  clear H1
  obtain rfl := Option.some.inj H
  go_enter Try.func116, Try.ntmps116
  go_wp2_with (first | ((with_reducible refine gd 1 rfl ?_); refine bx 1 (cs := #[.int .i64 z, .int .i64 D]) (t := 36) ?_; intro M hg Y hbox hb; have s := am hbox; have T := gwb HB hg; replace HB := hs HB hb; clear hb hbox hg; obtain ⟨af, ag⟩ := bc2 (w := Y) s.out; have ah := blk_frozen s.out) | ((with_reducible refine gc 92 rfl ?_); refine gl 4 Try.func92 #[.agg #[.int .i64 z, .int .i64 D]] ?_; (with_reducible refine (impl_NodeOk.calls z D false _ J.out).mono ?_); rintro e ai ⟨rfl, hb⟩; refine ⟨_, rfl, ?_⟩; replace s := bb s hb rfl; replace HB := hs HB hb; (try clear hb)))
  go_ret
  exact ⟨eqr, bs HB.out⟩

end Go.Proofs.Ytohmemckdogljaa.QFnExactWalkThrees
