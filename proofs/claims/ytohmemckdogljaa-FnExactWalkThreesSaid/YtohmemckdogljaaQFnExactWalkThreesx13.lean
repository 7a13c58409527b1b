/- Contracts of the Go functions that this law reaches: each does what its plain Lean function says. No condition. -/
import Derived.Test.YtohmemckdogljaaQFnExactWalkThreesx0
import Derived.Test.YtohmemckdogljaaQFnExactWalkThreesx2
import Derived.Test.YtohmemckdogljaaQFnExactWalkThreesx3
import Derived.Test.YtohmemckdogljaaQFnExactWalkThreesx8
import Derived.Test.YtohmemckdogljaaQFnExactWalkThreesx10
import Derived.Test.YtohmemckdogljaaQFnExactWalkThreesx12
namespace Go.Proofs.Ytohmemckdogljaa.QFnExactWalkThrees
open Go.RowKit Go.Proofs.YtohmemckdogljaaW.PrintWords Go.Proofs.YtohmemckdogljaaW.PrintLast Go.Proofs.YtohmemckdogljaaW.PrintMore Go.Proofs.Ytohmemckdogljaa.Bl
attribute [local go_sem] max2_int min2_int max_two min_two max_three min_three max_four min_four   -- for this text's walks alone
set_option linter.unusedVariables false
set_option linter.unusedSimpArgs false
set_option maxHeartbeats 8000000
set_option maxRecDepth 100000

/-! ### impl_WalkThrees: function 57 -/
mutual
def impl_WalkThrees.l0 : Nat → List (List Int) → Int → Int → Int → Option (Int)
 | 0, _, _, _, _ => none
 | k + 1, y, z, D, s => if s < D then (if 0 ≤ s then (if s < (y.length : Int) then (impl_WalkThrees.l1 k y z s D s (rd_L9 y s) ((rd_L9 y s).length : Int) 0) else (none)) else (none)) else (some z)
def impl_WalkThrees.l1 : Nat → List (List Int) → Int → Int → Int → Int → List Int → Int → Int → Option (Int)
 | 0, _, _, _, _, _, _, _, _ => none
 | k + 1, z, D, G, I, J, y, L, s => if s < L then (if 0 ≤ s then (if s < (y.length : Int) then (if (rd y s) < G then (impl_WalkThrees.l1 k z D G I J y L (wrap64 (s + 1))) else (if 0 ≤ (rd y s) then (if (rd y s) < (z.length : Int) then (impl_WalkThrees.l2 k z D G (rd y s) I J y L s (rd_L9 z (rd y s)) ((rd_L9 z (rd y s)).length : Int) 0) else (none)) else (none))) else (none)) else (none)) else (impl_WalkThrees.l0 k z D I (wrap64 (J + 1)))
def impl_WalkThrees.l2 : Nat → List (List Int) → Int → Int → Int → Int → Int → List Int → Int → Int → List Int → Int → Int → Option (Int)
 | 0, _, _, _, _, _, _, _, _, _, _, _, _ => none
 | k + 1, z, G, y, I, J, L, M, O, T, D, X, s => if s < X then (if 0 ≤ s then (if s < (D.length : Int) then (if (rd D s) > I then (if 0 ≤ y then (if y < (z.length : Int) then ((slices_Contains_int_int.f k (rd_L9 z y) (rd D s)).bind fun Y => (if Y = true then (impl_WalkThrees.l2 k z (wrap64 (G + 1)) y I J L M O T D X (wrap64 (s + 1))) else (impl_WalkThrees.l2 k z G y I J L M O T D X (wrap64 (s + 1))))) else (none)) else (none)) else (impl_WalkThrees.l2 k z G y I J L M O T D X (wrap64 (s + 1)))) else (none)) else (none)) else (impl_WalkThrees.l1 k z G y J L M O (wrap64 (T + 1)))
end
def impl_WalkThrees.f (k : Nat) (s : List (S36)) (y : List (S56)) : Option (Int) := (impl_GraphOk.f k s y).bind fun D => (if D = true then ((impl_nearPlaces.f k s y).bind fun z => (impl_WalkThrees.l0 k z 0 (z.length : Int) 0)) else (some 0))
theorem impl_WalkThrees.calls (k : Nat) (ab : Option Addr) (ac : Nat) (M : List (S36)) (ad : Option Addr) (ae : Nat) (O : List (S56)) (r : Int) (w : World) (bi : Kd.C k36 w ab M.length M) (bj : M.length ≤ ac) (bk : Kd.C k56 w ad O.length O) (bl : O.length ≤ ae) (h : impl_WalkThrees.f k M O = some r) :
  Calls Try.prog 57 #[.agg #[.slice ab M.length ac, .slice ad O.length ae]] w fun e w' => e = .returned (.int .i64 r) ∧ Below w.heap.size w w' := by
 have hu34 := Try.underlying34
 have aV := am bi
 have aW := am bj
 clear bi bj
 have aX := am bk
 have aY := am bl
 clear bk bl
 have HB := am (Below.refl w.heap.size w)
 have H := h; unfold impl_WalkThrees.f at H
 clear h
 replace H := Option.bind_eq_some_iff.mp H
 obtain ⟨bG, bm, H⟩ := H
 try dsimp -simprocs only at H
 have A2 := am bm
 clear bm
 by_cases c3 : bG = true
 ·subst c3
  replace H : ((impl_nearPlaces.f k M O).bind fun s => (impl_WalkThrees.l0 k s 0 (s.length : Int) 0)) = some r := by rw [if_pos rfl] at H; exact H
  replace H := Option.bind_eq_some_iff.mp H
  obtain ⟨s, bn, H⟩ := H
  try dsimp -simprocs only at H
  have A4 := am bn
  clear bn
  have H' := am H
  clear H
  go_enter Try.func57, Try.ntmps57
  go_wp2_with (first | ((with_reducible refine gd 1 rfl ?_); refine bx 1 (cs := #[.slice ab M.length ac, .slice ad O.length ae]) (t := 34) ?_; intro aO hg w5 hbox hb; have G := am hbox; have bH := gwb HB hg; replace HB := hs HB hb; clear hb hbox hg; obtain ⟨aZ, a2⟩ := bc2 (w := w5) G.out; have a3 := blk_frozen G.out) | ((with_reducible refine gc 34 rfl ?_); refine gl 11 Try.func34 #[.agg #[.slice ab M.length ac, .slice ad O.length ae]] ?_; (with_reducible refine (impl_GraphOk.calls k _ _ M _ _ O true _ ?af ?ag ?aC ?aD A2.out).mono ?_); (case af => exact Kd.C_below aV.out (bs HB.out)); (case ag => exact aW.out); (case aC => exact Kd.C_below aX.out (bs HB.out)); (case aD => exact aY.out); rintro e w7 ⟨rfl, hb⟩; refine ⟨_, rfl, ?_⟩; replace G := bb G hb rfl; replace HB := hs HB hb; (try clear hb); obtain ⟨a4, a5⟩ := bc2 (w := w7) G.out; have a6 := blk_frozen G.out) | ((with_reducible refine gc 68 rfl ?_); refine gl 14 Try.func68 #[.agg #[.slice ab M.length ac, .slice ad O.length ae]] ?_; (with_reducible refine (impl_nearPlaces.calls k _ _ M _ _ O s _ ?af ?ag ?aC ?aD A4.out).mono ?_); (case af => exact Kd.C_below aV.out (bs HB.out)); (case ag => exact aW.out); (case aC => exact Kd.C_below aX.out (bs HB.out)); (case aD => exact aY.out); rintro e w9 ⟨b4, rfl, bo, hb⟩; refine ⟨_, rfl, ?_⟩; have br := am (Kd.S_lower bo (below_size (bs HB.out))); replace G := bb G hb rfl; replace HB := hs HB hb; (try clear bo hb); obtain ⟨bI, a7, bJ⟩ := Kd.S_slice br.out; subst bJ))
  go_loopg [4, 17] k (fun kq v4 bK w' => ∃ (aP : Int) (y : Int), v4 = .int .i64 aP ∧ bK = .int .i64 y ∧ Aside0 (impl_WalkThrees.l0 kq s aP (s.length : Int) y = some r) ∧ Aside0 (kq ≤ k) ∧ Aside0 (Kd.S (Kd.slice 3 (Kd.int .i64)) 43 w' w.heap.size (fun _ => True) (.slice bI s.length a7) s) ∧ Aside0 (w'.heap[aO]? = some (.cells #[(.slice ab M.length ac), (.slice ad O.length ae)] 34 (0, 0))) ∧ Aside0 (Below w.heap.size w w'))
  case atStart => exact ⟨(0), (0), eqs, eqs, H', ⟨Nat.le_refl _⟩, ⟨by (with_reducible repeat (first | apply Kd.S_alloc | apply Kd.S_drewN | apply Kd.S_drew)); exact br.out⟩, ⟨bf G.out⟩, ⟨bs HB.out⟩⟩
  case round =>
   clear H'
   try clear p2
   try clear c3
   try clear c5
   try clear c6
   try clear aZ a2
   try clear a4 a5
   try clear a3
   try clear a6
   obtain ⟨aP, y, rfl, rfl, HA, T, I, G, HB⟩ := hrel
   cases gk with
   | zero => exact absurd HA.out (by simp [impl_WalkThrees.l0])
   | succ k1 =>
    have H := HA.out
    clear HA
    simp only [impl_WalkThrees.l0] at H
    by_cases ak : y < (s.length : Int)
    ·rw [if_pos ak] at H
     have a8 : decide (y < (s.length : Int)) = true := decide_eq_true ak
     clear ak
     by_cases au : 0 ≤ y
     ·rw [if_pos au] at H
      have bt : decide (0 ≤ y) = true := decide_eq_true au
      clear au
      by_cases av : y < (s.length : Int)
      ·rw [if_pos av] at H
       have bu : decide (y < (s.length : Int)) = true := decide_eq_true av
       clear av
       have H' := am H
       clear H
       have aw : 0 ≤ (y : Int) := oda
       have ax : y < (s.length : Int) := oda
       obtain ⟨aE, bL, b5, bM, a9, hl325_0, hi325_0⟩ := at_L9 (Kd.S_reads' I.out).2.2 y aw ax
       cases bM
       obtain ⟨b6, hce325, hMe325, bv⟩ := Kd.S_get I.out [] y aw (by first | exact ax | exact oda | (have e_ := (Kd.S_reads' I.out).1; omega))
       obtain ⟨ve325_0, rfl, ge325_0⟩ := hMe325
       have hv325_0 := bv 0 _ rfl
       rw [Nat.add_zero, show ((Kd.slice 3 (Kd.int .i64))).sz = 1 from rfl, Nat.mul_one] at hv325_0
       replace hv325_0 := Option.some.inj (hv325_0.symm.trans a9)
       rw [hv325_0] at ge325_0
       have HL325_0 := am (show Kd.R (Kd.int .i64) 3 _ _ _ _ (rd_L9 s y) from ge325_0)
       clear hv325_0 ge325_0
       clear bv hce325
       have L := am hi325_0
       have b7 := am hl325_0
       clear hi325_0 hl325_0
       replace aw := eq_true aw
       replace ax := eq_true ax
       go_wp2
       go_loopg [4, 25] k1 (fun kq v4 bN w' => ∃ (ay : Int) (z : Int), v4 = .int .i64 ay ∧ bN = .int .i64 z ∧ Aside0 (impl_WalkThrees.l1 kq s ay y (s.length : Int) y (rd_L9 s y) ((rd_L9 s y).length : Int) z = some r) ∧ Aside0 (kq ≤ k1) ∧ Aside0 (Kd.S (Kd.slice 3 (Kd.int .i64)) 43 w' w.heap.size (fun _ => True) (.slice (some aE) s.length a7) s) ∧ Aside0 (w'.heap[aO]? = some (.cells #[(.slice ab M.length ac), (.slice ad O.length ae)] 34 (0, 0))) ∧ Aside0 (Kd.C (Kd.int .i64) w' bL (rd_L9 s y).length (rd_L9 s y)) ∧ Aside0 (Below w.heap.size w w'))
       case atStart => exact ⟨(aP), (0), eqs, eqs, H', ⟨Nat.le_refl _⟩, ⟨by (with_reducible repeat (first | apply Kd.S_alloc | apply Kd.S_drewN | apply Kd.S_drew)); exact I.out⟩, ⟨bf G.out⟩, ⟨by repeat (first | (with_reducible exact L.out) | (with_reducible refine Kd.C_alloc ?_ _) | (with_reducible refine Kd.C_drewN ?_ _) | (with_reducible refine Kd.C_drew ?_) | exact L.out)⟩, ⟨bs HB.out⟩⟩
       case round =>
        clear H'
        try clear c1
        try clear p2
        try clear c3
        try clear p3
        try clear q3
        try clear bO
        try clear c5
        try clear c6
        try clear ak
        try clear a8
        try clear au
        try clear bt
        try clear av
        try clear bu
        try clear aZ a2
        try clear a4 a5
        try clear a3
        try clear a6
        try clear a9
        try clear p2
        try clear aw
        try clear ax
        obtain ⟨ay, z, rfl, rfl, HA, X, I, G, L, HB⟩ := hrel
        cases gk with
        | zero => exact absurd HA.out (by simp [impl_WalkThrees.l1])
        | succ k2 =>
         have H := HA.out
         clear HA
         simp only [impl_WalkThrees.l1] at H
         by_cases aq : z < ((rd_L9 s y).length : Int)
         ·rw [if_pos aq] at H
          have bw : decide (z < ((rd_L9 s y).length : Int)) = true := decide_eq_true aq
          clear aq
          by_cases aF : 0 ≤ z
          ·rw [if_pos aF] at H
           have bP : decide (0 ≤ z) = true := decide_eq_true aF
           clear aF
           by_cases aG : z < ((rd_L9 s y).length : Int)
           ·rw [if_pos aG] at H
            have bQ : decide (z < ((rd_L9 s y).length : Int)) = true := decide_eq_true aG
            clear aG
            by_cases ar : (rd (rd_L9 s y) z) < y
            ·rw [if_pos ar] at H
             have bz : decide ((rd (rd_L9 s y) z) < y) = true := decide_eq_true ar
             clear ar
             have H' := am H
             clear H
             have al : 0 ≤ (z : Int) := oda
             have an : z < ((rd_L9 s y).length : Int) := oda
             obtain ⟨bA, ba, az⟩ := Kd.at_int L.out z al an
             cases ba
             (try replace az := cb HB az)
             replace al := eq_true al
             replace an := eq_true an
             go_wp2
             go_roundg k2
             case measure => have := T.out; have := X.out; omega
             case rel => exact ⟨(ay), (wrap64 (z + 1)), eqs, eqs, H', ⟨by have := T.out; have := X.out; omega⟩, ⟨by (with_reducible repeat (first | apply Kd.S_alloc | apply Kd.S_drewN | apply Kd.S_drew)); exact I.out⟩, ⟨bf G.out⟩, ⟨by repeat (first | (with_reducible exact L.out) | (with_reducible refine Kd.C_alloc ?_ _) | (with_reducible refine Kd.C_drewN ?_ _) | (with_reducible refine Kd.C_drew ?_) | exact L.out)⟩, ⟨bs HB.out⟩⟩
            ·rw [if_neg ar] at H
             have bz : decide ((rd (rd_L9 s y) z) < y) = false := decide_eq_false ar
             clear ar
             by_cases aH : 0 ≤ (rd (rd_L9 s y) z)
             ·rw [if_pos aH] at H
              have bR : decide (0 ≤ (rd (rd_L9 s y) z)) = true := decide_eq_true aH
              clear aH
              by_cases aI : (rd (rd_L9 s y) z) < (s.length : Int)
              ·rw [if_pos aI] at H
               have bS : decide ((rd (rd_L9 s y) z) < (s.length : Int)) = true := decide_eq_true aI
               clear aI
               have H' := am H
               clear H
               have al : 0 ≤ (z : Int) := oda
               have an : z < ((rd_L9 s y).length : Int) := oda
               obtain ⟨bA, ba, az⟩ := Kd.at_int L.out z al an
               cases ba
               (try replace az := cb HB az)
               replace al := eq_true al
               replace an := eq_true an
               have aJ : 0 ≤ ((rd (rd_L9 s y) z) : Int) := oda
               have aK : (rd (rd_L9 s y) z) < (s.length : Int) := oda
               obtain ⟨bT, bU, b8, bV, bB, hl327_0, hi327_0⟩ := at_L9 (Kd.S_reads' I.out).2.2 (rd (rd_L9 s y) z) aJ aK
               obtain rfl : aE = bT := (by injection bV)
               obtain ⟨b9, hce327, hMe327, bC⟩ := Kd.S_get I.out [] (rd (rd_L9 s y) z) aJ (by first | exact aK | exact oda | (have e_ := (Kd.S_reads' I.out).1; omega))
               obtain ⟨ve327_0, rfl, ge327_0⟩ := hMe327
               have hv327_0 := bC 0 _ rfl
               rw [Nat.add_zero, show ((Kd.slice 3 (Kd.int .i64))).sz = 1 from rfl, Nat.mul_one] at hv327_0
               replace hv327_0 := Option.some.inj (hv327_0.symm.trans bB)
               rw [hv327_0] at ge327_0
               have HL327_0 := am (show Kd.R (Kd.int .i64) 3 _ _ _ _ (rd_L9 s (rd (rd_L9 s y) z)) from ge327_0)
               clear hv327_0 ge327_0
               clear bC hce327
               have Y := am hi327_0
               have ce := am hl327_0
               clear hi327_0 hl327_0
               replace aJ := eq_true aJ
               replace aK := eq_true aK
               go_wp2
               go_loopg [4, 37] k2 (fun kq v4 bW w' => ∃ (ah : Int) (D : Int), v4 = .int .i64 ah ∧ bW = .int .i64 D ∧ Aside0 (impl_WalkThrees.l2 kq s ah y (rd (rd_L9 s y) z) (s.length : Int) y (rd_L9 s y) ((rd_L9 s y).length : Int) z (rd_L9 s (rd (rd_L9 s y) z)) ((rd_L9 s (rd (rd_L9 s y) z)).length : Int) D = some r) ∧ Aside0 (kq ≤ k2) ∧ Aside0 (Kd.S (Kd.slice 3 (Kd.int .i64)) 43 w' w.heap.size (fun _ => True) (.slice (some aE) s.length a7) s) ∧ Aside0 (w'.heap[aO]? = some (.cells #[(.slice ab M.length ac), (.slice ad O.length ae)] 34 (0, 0))) ∧ Aside0 (Kd.C (Kd.int .i64) w' (some bA) (rd_L9 s y).length (rd_L9 s y)) ∧ Aside0 (Kd.C (Kd.int .i64) w' bU (rd_L9 s (rd (rd_L9 s y) z)).length (rd_L9 s (rd (rd_L9 s y) z))) ∧ Aside0 (Below w.heap.size w w'))
               case atStart => exact ⟨(ay), (0), eqs, eqs, H', ⟨Nat.le_refl _⟩, ⟨by (with_reducible repeat (first | apply Kd.S_alloc | apply Kd.S_drewN | apply Kd.S_drew)); exact I.out⟩, ⟨bf G.out⟩, ⟨by repeat (first | (with_reducible exact L.out) | (with_reducible refine Kd.C_alloc ?_ _) | (with_reducible refine Kd.C_drewN ?_ _) | (with_reducible refine Kd.C_drew ?_) | exact L.out)⟩, ⟨by repeat (first | (with_reducible exact Y.out) | (with_reducible refine Kd.C_alloc ?_ _) | (with_reducible refine Kd.C_drewN ?_ _) | (with_reducible refine Kd.C_drew ?_) | exact Y.out)⟩, ⟨bs HB.out⟩⟩
               case round =>
                clear H'
                try clear c1
                try clear p2
                try clear c3
                try clear p3
                try clear q3
                try clear bO
                try clear c5
                try clear c6
                try clear p6
                try clear ak
                try clear a8
                try clear au
                try clear bt
                try clear av
                try clear bu
                try clear aq
                try clear bw
                try clear aF
                try clear bP
                try clear aG
                try clear bQ
                try clear ar
                try clear bz
                try clear aH
                try clear bR
                try clear aI
                try clear bS
                try clear aZ a2
                try clear a4 a5
                try clear a3
                try clear a6
                try clear a9
                try clear az
                try clear bB
                try clear p2
                try clear p3
                try clear aw
                try clear al
                try clear aJ
                try clear q3
                try clear ax
                try clear an
                try clear aK
                obtain ⟨ah, D, rfl, rfl, HA, ao, I, G, L, Y, HB⟩ := hrel
                cases gk with
                | zero => exact absurd HA.out (by simp [impl_WalkThrees.l2])
                | succ k3 =>
                 have H := HA.out
                 clear HA
                 simp only [impl_WalkThrees.l2] at H
                 by_cases aA : D < ((rd_L9 s (rd (rd_L9 s y) z)).length : Int)
                 ·rw [if_pos aA] at H
                  have bX : decide (D < ((rd_L9 s (rd (rd_L9 s y) z)).length : Int)) = true := decide_eq_true aA
                  clear aA
                  by_cases aQ : 0 ≤ D
                  ·rw [if_pos aQ] at H
                   have cf : decide (0 ≤ D) = true := decide_eq_true aQ
                   clear aQ
                   by_cases aR : D < ((rd_L9 s (rd (rd_L9 s y) z)).length : Int)
                   ·rw [if_pos aR] at H
                    have cg : decide (D < ((rd_L9 s (rd (rd_L9 s y) z)).length : Int)) = true := decide_eq_true aR
                    clear aR
                    by_cases aB : (rd (rd_L9 s (rd (rd_L9 s y) z)) D) > (rd (rd_L9 s y) z)
                    ·rw [if_pos aB] at H
                     have bY : decide ((rd (rd_L9 s y) z) < (rd (rd_L9 s (rd (rd_L9 s y) z)) D)) = true := decide_eq_true aB
                     clear aB
                     by_cases aS : 0 ≤ y
                     ·rw [if_pos aS] at H
                      have ch : decide (0 ≤ y) = true := decide_eq_true aS
                      clear aS
                      by_cases aT : y < (s.length : Int)
                      ·rw [if_pos aT] at H
                       have ci : decide (y < (s.length : Int)) = true := decide_eq_true aT
                       clear aT
                       replace H := Option.bind_eq_some_iff.mp H
                       obtain ⟨bZ, bD, H⟩ := H
                       try dsimp -simprocs only at H
                       have bE := am bD
                       clear bD
                       by_cases aU : bZ = true
                       ·subst aU
                        replace H : (impl_WalkThrees.l2 k3 s (wrap64 (ah + 1)) y (rd (rd_L9 s y) z) (s.length : Int) y (rd_L9 s y) ((rd_L9 s y).length : Int) z (rd_L9 s (rd (rd_L9 s y) z)) ((rd_L9 s (rd (rd_L9 s y) z)).length : Int) (wrap64 (D + 1))) = some r := by rw [if_pos rfl] at H; exact H
                        have H' := am H
                        clear H
                        have Z : 0 ≤ (D : Int) := oda
                        have aa : D < ((rd_L9 s (rd (rd_L9 s y) z)).length : Int) := oda
                        obtain ⟨bF, aL, ap⟩ := Kd.at_int Y.out D Z aa
                        cases aL
                        (try replace ap := cb HB ap)
                        replace Z := eq_true Z
                        replace aa := eq_true aa
                        have ai : 0 ≤ (y : Int) := oda
                        have aj : y < (s.length : Int) := oda
                        obtain ⟨bc, b0, b1, be, bg, hl329_0, hi329_0⟩ := at_L9 (Kd.S_reads' I.out).2.2 y ai aj
                        obtain rfl : aE = bc := (by injection be)
                        obtain ⟨b2, hce329, hMe329, aM⟩ := Kd.S_get I.out [] y ai (by first | exact aj | exact oda | (have e_ := (Kd.S_reads' I.out).1; omega))
                        obtain ⟨ve329_0, rfl, ge329_0⟩ := hMe329
                        have hv329_0 := aM 0 _ rfl
                        rw [Nat.add_zero, show ((Kd.slice 3 (Kd.int .i64))).sz = 1 from rfl, Nat.mul_one] at hv329_0
                        replace hv329_0 := Option.some.inj (hv329_0.symm.trans bg)
                        rw [hv329_0] at ge329_0
                        have HL329_0 := am (show Kd.R (Kd.int .i64) 3 _ _ _ _ (rd_L9 s y) from ge329_0)
                        clear hv329_0 ge329_0
                        clear aM hce329
                        have aN := am hi329_0
                        have bh := am hl329_0
                        clear hi329_0 hl329_0
                        replace ai := eq_true ai
                        replace aj := eq_true aj
                        go_wp2_with (first | (go_at_call 108; (with_reducible refine (slices_Contains_int_int.calls k3 _ _ (rd_L9 s y) (rd (rd_L9 s (rd (rd_L9 s y) z)) D) true _ ?af ?ag bE.out).mono ?_); (case af => repeat (first | exact (by repeat (first | (with_reducible exact aN.out) | (with_reducible refine Kd.C_alloc ?_ _) | (with_reducible refine Kd.C_drewN ?_ _) | (with_reducible refine Kd.C_drew ?_) | exact aN.out)) | (with_reducible refine Kd.C_alloc ?_ _) | (with_reducible refine Kd.C_drewN ?_ _) | (with_reducible refine Kd.C_drew ?_))); (case ag => exact bh.out); rintro e w' ⟨rfl, ⟨nd, rfl⟩⟩))
                        go_roundg k3
                        case measure => have := T.out; have := X.out; have := ao.out; omega
                        case rel => exact ⟨(wrap64 (ah + 1)), (wrap64 (D + 1)), eqs, eqs, H', ⟨by have := T.out; have := X.out; have := ao.out; omega⟩, ⟨by (with_reducible repeat (first | apply Kd.S_alloc | apply Kd.S_drewN | apply Kd.S_drew)); exact I.out⟩, ⟨bf G.out⟩, ⟨by repeat (first | (with_reducible exact L.out) | (with_reducible refine Kd.C_alloc ?_ _) | (with_reducible refine Kd.C_drewN ?_ _) | (with_reducible refine Kd.C_drew ?_) | exact L.out)⟩, ⟨by repeat (first | (with_reducible exact Y.out) | (with_reducible refine Kd.C_alloc ?_ _) | (with_reducible refine Kd.C_drewN ?_ _) | (with_reducible refine Kd.C_drew ?_) | exact Y.out)⟩, ⟨bs HB.out⟩⟩
                       ·replace aU := Bool.eq_false_iff.mpr aU
                        subst aU
                        have H1 : (impl_WalkThrees.l2 k3 s ah y (rd (rd_L9 s y) z) (s.length : Int) y (rd_L9 s y) ((rd_L9 s y).length : Int) z (rd_L9 s (rd (rd_L9 s y) z)) ((rd_L9 s (rd (rd_L9 s y) z)).length : Int) (wrap64 (D + 1))) = some r := by rw [if_neg (show ¬ (false = true) by decide)] at H; exact H
                        clear H
                        have H := H1
                        clear H1
                        have H' := am H
                        clear H
                        have Z : 0 ≤ (D : Int) := oda
                        have aa : D < ((rd_L9 s (rd (rd_L9 s y) z)).length : Int) := oda
                        obtain ⟨bF, aL, ap⟩ := Kd.at_int Y.out D Z aa
                        cases aL
                        (try replace ap := cb HB ap)
                        replace Z := eq_true Z
                        replace aa := eq_true aa
                        have ai : 0 ≤ (y : Int) := oda
                        have aj : y < (s.length : Int) := oda
                        obtain ⟨bc, b0, b1, be, bg, hl329_0, hi329_0⟩ := at_L9 (Kd.S_reads' I.out).2.2 y ai aj
                        obtain rfl : aE = bc := (by injection be)
                        obtain ⟨b2, hce329, hMe329, aM⟩ := Kd.S_get I.out [] y ai (by first | exact aj | exact oda | (have e_ := (Kd.S_reads' I.out).1; omega))
                        obtain ⟨ve329_0, rfl, ge329_0⟩ := hMe329
                        have hv329_0 := aM 0 _ rfl
                        rw [Nat.add_zero, show ((Kd.slice 3 (Kd.int .i64))).sz = 1 from rfl, Nat.mul_one] at hv329_0
                        replace hv329_0 := Option.some.inj (hv329_0.symm.trans bg)
                        rw [hv329_0] at ge329_0
                        have HL329_0 := am (show Kd.R (Kd.int .i64) 3 _ _ _ _ (rd_L9 s y) from ge329_0)
                        clear hv329_0 ge329_0
                        clear aM hce329
                        have aN := am hi329_0
                        have bh := am hl329_0
                        clear hi329_0 hl329_0
                        replace ai := eq_true ai
                        replace aj := eq_true aj
                        go_wp2_with (first | (go_at_call 108; (with_reducible refine (slices_Contains_int_int.calls k3 _ _ (rd_L9 s y) (rd (rd_L9 s (rd (rd_L9 s y) z)) D) false _ ?af ?ag bE.out).mono ?_); (case af => repeat (first | exact (by repeat (first | (with_reducible exact aN.out) | (with_reducible refine Kd.C_alloc ?_ _) | (with_reducible refine Kd.C_drewN ?_ _) | (with_reducible refine Kd.C_drew ?_) | exact aN.out)) | (with_reducible refine Kd.C_alloc ?_ _) | (with_reducible refine Kd.C_drewN ?_ _) | (with_reducible refine Kd.C_drew ?_))); (case ag => exact bh.out); rintro e w' ⟨rfl, ⟨nd, rfl⟩⟩))
                        go_roundg k3
                        case measure => have := T.out; have := X.out; have := ao.out; omega
                        case rel => exact ⟨(ah), (wrap64 (D + 1)), eqs, eqs, H', ⟨by have := T.out; have := X.out; have := ao.out; omega⟩, ⟨by (with_reducible repeat (first | apply Kd.S_alloc | apply Kd.S_drewN | apply Kd.S_drew)); exact I.out⟩, ⟨bf G.out⟩, ⟨by repeat (first | (with_reducible exact L.out) | (with_reducible refine Kd.C_alloc ?_ _) | (with_reducible refine Kd.C_drewN ?_ _) | (with_reducible refine Kd.C_drew ?_) | exact L.out)⟩, ⟨by repeat (first | (with_reducible exact Y.out) | (with_reducible refine Kd.C_alloc ?_ _) | (with_reducible refine Kd.C_drewN ?_ _) | (with_reducible refine Kd.C_drew ?_) | exact Y.out)⟩, ⟨bs HB.out⟩⟩
                      ·rw [if_neg aT] at H
                       exact absurd H (by simp)
                     ·rw [if_neg aS] at H
                      exact absurd H (by simp)
                    ·rw [if_neg aB] at H
                     have bY : decide ((rd (rd_L9 s y) z) < (rd (rd_L9 s (rd (rd_L9 s y) z)) D)) = false := decide_eq_false aB
                     clear aB
                     have H' := am H
                     clear H
                     have Z : 0 ≤ (D : Int) := oda
                     have aa : D < ((rd_L9 s (rd (rd_L9 s y) z)).length : Int) := oda
                     obtain ⟨bF, aL, ap⟩ := Kd.at_int Y.out D Z aa
                     cases aL
                     (try replace ap := cb HB ap)
                     replace Z := eq_true Z
                     replace aa := eq_true aa
                     go_wp2
                     go_roundg k3
                     case measure => have := T.out; have := X.out; have := ao.out; omega
                     case rel => exact ⟨(ah), (wrap64 (D + 1)), eqs, eqs, H', ⟨by have := T.out; have := X.out; have := ao.out; omega⟩, ⟨by (with_reducible repeat (first | apply Kd.S_alloc | apply Kd.S_drewN | apply Kd.S_drew)); exact I.out⟩, ⟨bf G.out⟩, ⟨by repeat (first | (with_reducible exact L.out) | (with_reducible refine Kd.C_alloc ?_ _) | (with_reducible refine Kd.C_drewN ?_ _) | (with_reducible refine Kd.C_drew ?_) | exact L.out)⟩, ⟨by repeat (first | (with_reducible exact Y.out) | (with_reducible refine Kd.C_alloc ?_ _) | (with_reducible refine Kd.C_drewN ?_ _) | (with_reducible refine Kd.C_drew ?_) | exact Y.out)⟩, ⟨bs HB.out⟩⟩
                   ·rw [if_neg aR] at H
                    exact absurd H (by simp)
                  ·rw [if_neg aQ] at H
                   exact absurd H (by simp)
                 ·rw [if_neg aA] at H
                  have bX : decide (D < ((rd_L9 s (rd (rd_L9 s y) z)).length : Int)) = false := decide_eq_false aA
                  clear aA
                  have H' := am H
                  clear H
                  go_wp2
                  go_roundg k3
                  case measure => have := T.out; have := X.out; have := ao.out; omega
                  case rel => exact ⟨(ah), (wrap64 (z + 1)), eqs, eqs, H', ⟨by have := T.out; have := X.out; have := ao.out; omega⟩, ⟨by (with_reducible repeat (first | apply Kd.S_alloc | apply Kd.S_drewN | apply Kd.S_drew)); exact I.out⟩, ⟨bf G.out⟩, ⟨by repeat (first | (with_reducible exact L.out) | (with_reducible refine Kd.C_alloc ?_ _) | (with_reducible refine Kd.C_drewN ?_ _) | (with_reducible refine Kd.C_drew ?_) | exact L.out)⟩, ⟨bs HB.out⟩⟩
              ·rw [if_neg aI] at H
               exact absurd H (by simp)
             ·rw [if_neg aH] at H
              exact absurd H (by simp)
           ·rw [if_neg aG] at H
            exact absurd H (by simp)
          ·rw [if_neg aF] at H
           exact absurd H (by simp)
         ·rw [if_neg aq] at H
          have bw : decide (z < ((rd_L9 s y).length : Int)) = false := decide_eq_false aq
          clear aq
          have H' := am H
          clear H
          go_wp2
          go_roundg k2
          case measure => have := T.out; have := X.out; omega
          case rel => exact ⟨(ay), (wrap64 (y + 1)), eqs, eqs, H', ⟨by have := T.out; have := X.out; omega⟩, ⟨by (with_reducible repeat (first | apply Kd.S_alloc | apply Kd.S_drewN | apply Kd.S_drew)); exact I.out⟩, ⟨bf G.out⟩, ⟨bs HB.out⟩⟩
      ·rw [if_neg av] at H
       exact absurd H (by simp)
     ·rw [if_neg au] at H
      exact absurd H (by simp)
    ·rw [if_neg ak] at H
     have a8 : decide (y < (s.length : Int)) = false := decide_eq_false ak
     clear ak
     obtain rfl := Option.some.inj H
     go_wp2
     go_ret
     exact ⟨eqr, bs HB.out⟩
 ·replace c3 := Bool.eq_false_iff.mpr c3
  subst c3
  have H1 : (some 0) = some r := by rw [if_neg (show ¬ (false = true) by decide)] at H; exact H
  clear H
  have H := H1
  clear H1
  obtain rfl := Option.some.inj H
  go_enter Try.func57, Try.ntmps57
  go_wp2_with (first | ((with_reducible refine gd 1 rfl ?_); refine bx 1 (cs := #[.slice ab M.length ac, .slice ad O.length ae]) (t := 34) ?_; intro aO hg b3 hbox hb; have G := am hbox; have bH := gwb HB hg; replace HB := hs HB hb; clear hb hbox hg; obtain ⟨cj, ck⟩ := bc2 (w := b3) G.out; have cl := blk_frozen G.out) | ((with_reducible refine gc 34 rfl ?_); refine gl 11 Try.func34 #[.agg #[.slice ab M.length ac, .slice ad O.length ae]] ?_; (with_reducible refine (impl_GraphOk.calls k _ _ M _ _ O false _ ?af ?ag ?aC ?aD A2.out).mono ?_); (case af => exact Kd.C_below aV.out (bs HB.out)); (case ag => exact aW.out); (case aC => exact Kd.C_below aX.out (bs HB.out)); (case aD => exact aY.out); rintro e cm ⟨rfl, hb⟩; refine ⟨_, rfl, ?_⟩; replace G := bb G hb rfl; replace HB := hs HB hb; (try clear hb)))
  go_ret
  exact ⟨eqr, bs HB.out⟩

/-! ### laws_FnExactWalkThrees: function 14 -/
def laws_FnExactWalkThrees.f (k : Nat) (s : List (S27)) (y : List (S70)) : Option (Bool) := (laws_szGraph.f s y 1048576).bind fun I => (if I < 0 then (some true) else ((laws_toGraph.f k s y).bind fun D => ((spec_WalkThrees.f k D.1 D.2).bind fun J => ((laws_toGraph.f k s y).bind fun z => ((impl_WalkThrees.f k z.1 z.2).bind fun L => (if L = J then ((laws_toGraph.f k s y).bind fun G => ((laws_eqGraph.f k z.1 z.2 G.1 G.2).bind fun M => (if M = true then (some true) else (some false)))) else (some false)))))))
theorem laws_FnExactWalkThrees.calls (k : Nat) (Y : Option Addr) (Z : Nat) (G : List (S27)) (aa : Option Addr) (ab : Nat) (I : List (S70)) (r : Bool) (hT : Aside0 (r = true)) (w : World) (aI : Kd.C k27 w Y G.length G) (aJ : G.length ≤ Z) (aK : Kd.C k70 w aa I.length I) (aL : I.length ≤ ab) (h : laws_FnExactWalkThrees.f k G I = some r) :
  Calls Try.prog 14 #[.agg #[.slice Y G.length Z, .slice aa I.length ab]] w fun e w' => e = .returned (.bool r) ∧ Below w.heap.size w w' := by
 have hu25 := Try.underlying25
 have hu34 := Try.underlying34
 have aj := am aI
 have ak := am aJ
 clear aI aJ
 have al := am aK
 have an := am aL
 clear aK aL
 have HB := am (Below.refl w.heap.size w)
 have H := h; unfold laws_FnExactWalkThrees.f at H
 clear h
 replace H := Option.bind_eq_some_iff.mp H
 obtain ⟨ao, aM, H⟩ := H
 try dsimp -simprocs only at H
 have A2 := am aM
 clear aM
 by_cases c3 : ao < 0
 ·rw [if_pos c3] at H
  have a2 : decide (ao < 0) = true := decide_eq_true c3
  clear c3
  obtain rfl := Option.some.inj H
  go_enter Try.func14, Try.ntmps14
  go_wp2_with (first | ((with_reducible refine gd 1 rfl ?_); refine bx 1 (cs := #[.slice Y G.length Z, .slice aa I.length ab]) (t := 25) ?_; intro ax hg w4 hbox hb; have s := am hbox; have a3 := gwb HB hg; replace HB := hs HB hb; clear hb hbox hg; obtain ⟨bC, bD⟩ := bc2 (w := w4) s.out; have bE := blk_frozen s.out) | ((with_reducible refine gc 16 rfl ?_); refine gl 9 Try.func16 #[.agg #[.slice Y G.length Z, .slice aa I.length ab], .int .i64 1048576] ?_; (with_reducible refine (laws_szGraph.calls _ _ G _ _ I 1048576 ao _ ?M ?O ?T ?X A2.out).mono ?_); (case M => exact Kd.C_below aj.out (bs HB.out)); (case O => exact ak.out); (case T => exact Kd.C_below al.out (bs HB.out)); (case X => exact an.out); rintro e w6 ⟨rfl, hb⟩; refine ⟨_, rfl, ?_⟩; replace s := bb s hb rfl; replace HB := hs HB hb; (try clear hb)))
  go_ret
  exact ⟨eqr, bs HB.out⟩
 ·rw [if_neg c3] at H
  have a2 : decide (ao < 0) = false := decide_eq_false c3
  clear c3
  replace H := Option.bind_eq_some_iff.mp H
  obtain ⟨⟨ay, az⟩, aN, H⟩ := H
  try dsimp -simprocs only at H
  have A7 := am aN
  clear aN
  replace H := Option.bind_eq_some_iff.mp H
  obtain ⟨ah, aO, H⟩ := H
  try dsimp -simprocs only at H
  have A8 := am aO
  clear aO
  replace H := Option.bind_eq_some_iff.mp H
  obtain ⟨⟨ae, af⟩, aP, H⟩ := H
  try dsimp -simprocs only at H
  have A9 := am aP
  clear aP
  replace H := Option.bind_eq_some_iff.mp H
  obtain ⟨ai, aQ, H⟩ := H
  try dsimp -simprocs only at H
  have a5 := am aQ
  clear aQ
  by_cases ag : ai = ah
  ·rw [if_pos ag] at H
   have a6 : (ai == ah) = true := beq_iff_eq.mpr ag
   have a7 : (ai != ah) = false := bne_eq_false_iff_eq.mpr ag
   clear ag
   replace H := Option.bind_eq_some_iff.mp H
   obtain ⟨⟨aD, aE⟩, aR, H⟩ := H
   try dsimp -simprocs only at H
   have a8 := am aR
   clear aR
   replace H := Option.bind_eq_some_iff.mp H
   obtain ⟨a9, aS, H⟩ := H
   try dsimp -simprocs only at H
   have ba := am aS
   clear aS
   by_cases aA : a9 = true
   ·subst aA
    replace H : (some true) = some r := by rw [if_pos rfl] at H; exact H
    obtain rfl := Option.some.inj H
    go_enter Try.func14, Try.ntmps14
    try go_wp2_with (first | ((with_reducible refine gd 1 rfl ?_); refine bx 1 (cs := #[.slice Y G.length Z, .slice aa I.length ab]) (t := 25) ?_; intro ax hg bc hbox hb; have s := am hbox; have a3 := gwb HB hg; replace HB := hs HB hb; clear hb hbox hg; obtain ⟨bF, bG⟩ := bc2 (w := bc) s.out; have bH := blk_frozen s.out) | ((with_reducible refine gc 16 rfl ?_); refine gl 9 Try.func16 #[.agg #[.slice Y G.length Z, .slice aa I.length ab], .int .i64 1048576] ?_; (with_reducible refine (laws_szGraph.calls _ _ G _ _ I 1048576 ao _ ?M ?O ?T ?X A2.out).mono ?_); (case M => exact Kd.C_below aj.out (bs HB.out)); (case O => exact ak.out); (case T => exact Kd.C_below al.out (bs HB.out)); (case X => exact an.out); rintro e be ⟨rfl, hb⟩; refine ⟨_, rfl, ?_⟩; replace s := bb s hb rfl; replace HB := hs HB hb; (try clear hb); obtain ⟨bI, bJ⟩ := bc2 (w := be) s.out; have bK := blk_frozen s.out) | ((with_reducible refine gc 18 rfl ?_); refine gl 13 Try.func18 #[.agg #[.slice Y G.length Z, .slice aa I.length ab]] ?_; (with_reducible refine (laws_toGraph.calls k _ _ G _ _ I ay az _ ?M ?O ?T ?X A7.out).mono ?_); (case M => exact Kd.C_below aj.out (bs HB.out)); (case O => exact ak.out); (case T => exact Kd.C_below al.out (bs HB.out)); (case X => exact an.out); rintro e bL ⟨bM, bN, rfl, ac, ad, hb⟩; refine ⟨_, rfl, ?_⟩; have z := am (Kd.R_lower ac (below_size (bs HB.out))); have D := am (Kd.R_lower ad (below_size (bs HB.out))); replace s := bb s hb rfl; replace HB := hs HB hb; (try clear ac ad hb); obtain ⟨aT, aU, bg⟩ := Kd.R_slice z.out; subst bg; obtain ⟨aV, aW, bh⟩ := Kd.R_slice D.out; subst bh) | ((with_reducible refine gc 56 rfl ?_); refine gl 14 Try.func56 #[.agg #[.slice aT ay.length aU, .slice aV az.length aW]] ?_; (with_reducible refine (spec_WalkThrees.calls k _ _ ay _ _ az ah _ ?M ?O ?T ?X A8.out).mono ?_); (case M => exact cr z); (case O => exact cc z); (case T => exact cr D); (case X => exact cc D); rintro e bi ⟨rfl, hb⟩; refine ⟨_, rfl, ?_⟩; replace z := rb z hb; replace D := rb D hb; replace s := bb s hb rfl; replace HB := hs HB hb; (try clear hb); obtain ⟨bO, bP⟩ := bc2 (w := bi) s.out; have bQ := blk_frozen s.out) | ((with_reducible refine gc 18 rfl ?_); refine gl 16 Try.func18 #[.agg #[.slice Y G.length Z, .slice aa I.length ab]] ?_; (with_reducible refine (laws_toGraph.calls k _ _ G _ _ I ae af _ ?M ?O ?T ?X A9.out).mono ?_); (case M => exact Kd.C_below aj.out (bs HB.out)); (case O => exact ak.out); (case T => exact Kd.C_below al.out (bs HB.out)); (case X => exact an.out); rintro e bR ⟨bS, bT, rfl, ac, ad, hb⟩; refine ⟨_, rfl, ?_⟩; have J := am (Kd.R_lower (Kd.R_new' ac (rk z)) (below_size (bs HB.out))); replace z := re z ac hb; have L := am (Kd.R_lower (Kd.R_new' ad (rk D)) (below_size (bs HB.out))); replace D := re D ad hb; replace s := bb s hb rfl; replace HB := hs HB hb; (try clear ac ad hb)) | ((with_reducible refine gd 5 rfl ?_); refine bx 5 (cs := #[.slice none 0 0, .slice none 0 0]) (t := 34) ?_; intro aX hg bj hbox hb; replace z := rb z hb; replace D := rb D hb; replace J := rb J hb; replace L := rb L hb; have y := am hbox; have bU := gwb HB hg; replace HB := hs HB hb; have bk := nq s hg; have bl := nq' s hg; replace s := bb s hb rfl; clear hb hbox hg; obtain ⟨aB, ap, bm⟩ := Kd.R_slice J.out; subst bm; have bV := bl.out; have bW := bk.out; obtain ⟨bX, bY⟩ := bc2 (w := bj) y.out; have bZ := blk_frozen y.out; obtain ⟨aC, aq, bn⟩ := Kd.R_slice L.out; subst bn) | ((with_reducible refine gc 57 rfl ?_); refine gl 18 Try.func57 #[.agg #[.slice aB ae.length ap, .slice aC af.length aq]] ?_; (with_reducible refine (impl_WalkThrees.calls k _ _ ae _ _ af ai _ ?M ?O ?T ?X a5.out).mono ?_); (case M => refine (Kd.R_reads' (e := 36) (base := w.heap.size) (ok := fun k_ => (True ∧ some k_ ≠ (.slice aT ay.length aU : Value).ownBlock)) (n := ae.length) (c := ap) ?_).2.2; exact (rt J.out y.out (by decide))); (case O => exact cc J); (case T => refine (Kd.R_reads' (e := 56) (base := w.heap.size) (ok := fun k_ => (True ∧ some k_ ≠ (.slice aV az.length aW : Value).ownBlock)) (n := af.length) (c := aq) ?_).2.2; exact (rt L.out y.out (by decide))); (case X => exact cc L); rintro e bo ⟨rfl, hb⟩; refine ⟨_, rfl, ?_⟩; replace z := am (Kd.R_below (rt z.out y.out (by decide)) hb); replace D := am (Kd.R_below (rt D.out y.out (by decide)) hb); replace J := am (Kd.R_below (rt J.out y.out (by decide)) hb); replace L := am (Kd.R_below (rt L.out y.out (by decide)) hb); replace s := am (blk_below (g := ax) (o := .cells #[.slice Y G.length Z, .slice aa I.length ab] 25 (0, 0)) (bf s.out) hb); replace y := bq #[.slice aB ae.length ap, .slice aC af.length aq] y hb; replace HB := hs HB hb; (try clear hb); (try clear hb2); (try clear hk); (try clear hi)))
    replace z := rd_ z
    replace D := rd_ D
    replace J := rd_ J
    replace L := rd_ L
    replace s := bd s
    replace y := bd y
    replace HB := hd HB
    refine sta 5 (fun w' => w'.cell? ⟨aX, 0, none⟩ = some (.slice aB ae.length ap) ∧ w'.cell? ⟨aX, 1, none⟩ = some (.slice aC af.length aq) ∧ w'.cell? ⟨ax, 0, none⟩ = some (.slice Y G.length Z) ∧ w'.cell? ⟨ax, 1, none⟩ = some (.slice aa I.length ab)) [] ⟨cx y 0, cx y 1, cx s 0, cx s 1⟩ (fun hHeld => ?_)
    generalize bo.drew = b0 at z D J L s y HB hHeld ⊢
    refine tk 0 22 ?_
    refine tk 1 23 ?_
    refine on 2 24 (fun K hK => ?_)
    refine gs Try.func18 #[.agg #[.slice Y G.length Z, .slice aa I.length ab]] ?_
    with_reducible refine (laws_toGraph.calls k _ _ G _ _ I aD aE _ ?M ?O ?T ?X a8.out).mono ?_
    (case M => exact Kd.C_below aj.out (bs HB.out))
    (case O => exact ak.out)
    (case T => exact Kd.C_below al.out (bs HB.out))
    (case X => exact an.out)
    rintro e b1 ⟨b2, b3, rfl, ac, ad, hb⟩
    refine ⟨_, rfl, ?_⟩
    have ar := am (Kd.R_lower (Kd.R_new' (Kd.R_new' ac (rk z)) (rk J)) (below_size (bs HB.out)))
    replace z := re z ac hb
    replace J := re J ac hb
    have au := am (Kd.R_lower (Kd.R_new' (Kd.R_new' ad (rk D)) (rk L)) (below_size (bs HB.out)))
    replace D := re D ad hb
    replace L := re L ad hb
    replace s := bb s hb rfl
    replace y := bb y hb rfl
    replace HB := hs HB hb
    (try clear hb)
    (try clear hb2)
    (try clear hk)
    (try clear hi)
    (try clear ac)
    (try clear ad)
    obtain ⟨br, bt, aY⟩ := Kd.R_slice ar.out
    (first | subst aY | (injection aY with av aF aw; have aG := av.symm; have aH := aw.symm; clear av aF aw; subst aG; subst aH))
    obtain ⟨bu, bv, aZ⟩ := Kd.R_slice au.out
    (first | subst aZ | (injection aZ with av aF aw; have aG := av.symm; have aH := aw.symm; clear av aF aw; subst aG; subst aH))
    refine hK.out _ _ ⟨cx y 0, cx y 1, cx s 0, cx s 1⟩ (fun hHeld => ?_)
    clear hK K
    refine nrm 24 ?_
    refine on 3 25 (fun K hK => ?_)
    refine gs Try.func22 #[.agg #[.slice aB ae.length ap, .slice aC af.length aq], .agg #[.slice br aD.length bt, .slice bu aE.length bv]] ?_
    with_reducible refine (laws_eqGraph.calls k _ _ ae _ _ af _ _ aD _ _ aE true _ ?M ?O ?T ?X ?bw ?bz ?bA ?bB ba.out).mono ?_
    (case M => exact cr J)
    (case O => exact cc J)
    (case T => exact cr L)
    (case X => exact cc L)
    (case bw => exact cr ar)
    (case bz => exact cc ar)
    (case bA => exact cr au)
    (case bB => exact cc au)
    rintro e b4 ⟨rfl, hb⟩
    refine ⟨_, rfl, ?_⟩
    replace z := rb z hb
    replace D := rb D hb
    replace J := rb J hb
    replace L := rb L hb
    replace ar := rb ar hb
    replace au := rb au hb
    replace s := bb s hb rfl
    replace y := bb y hb rfl
    replace HB := hs HB hb
    (try clear hb)
    (try clear hb2)
    (try clear hk)
    (try clear hi)
    refine hK.out _ _ ⟨cx y 0, cx y 1, cx s 0, cx s 1⟩ (fun hHeld => ?_)
    clear hK K
    refine nrm 25 ?_
    refine pu 4 26 ?_
    refine dn ?_
    try go_wp2
    go_ret
    exact ⟨eqr, bs HB.out⟩
   ·replace aA := Bool.eq_false_iff.mpr aA
    subst aA
    have H1 : (some false) = some r := by rw [if_neg (show ¬ (false = true) by decide)] at H; exact H
    clear H
    have H := H1
    clear H1
    exact absurd (Option.some.inj H) (by rw [hT.out]; decide)
  ·rw [if_neg ag] at H
   have a6 : (ai == ah) = false := beq_eq_false_iff_ne.mpr ag
   have a7 : (ai != ah) = true := bne_iff_ne.mpr ag
   exact absurd (Option.some.inj H) (by rw [hT.out]; decide)

end Go.Proofs.Ytohmemckdogljaa.QFnExactWalkThrees
