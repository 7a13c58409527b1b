/- Contracts of the Go functions that this law reaches: each does what its plain Lean function says. No condition. -/
import Derived.Test.YtohmemckdogljaaQFnExactWalkPathx0
namespace Go.Proofs.Ytohmemckdogljaa.QFnExactWalkPath
open Go.RowKit Go.Proofs.YtohmemckdogljaaW.PrintWords Go.Proofs.YtohmemckdogljaaW.PrintLast Go.Proofs.YtohmemckdogljaaW.PrintMore Go.Proofs.Ytohmemckdogljaa.Bl
attribute [local go_sem] max2_int min2_int max_two min_two max_three min_three max_four min_four   -- for this text's walks alone
set_option linter.unusedVariables false
set_option linter.unusedSimpArgs false
set_option maxHeartbeats 8000000
set_option maxRecDepth 100000

/-! ### impl_stepsFrom: function 69 -/
mutual
def impl_stepsFrom.l0 : Nat → List (List Int) → Int → List Int → Int → Int → Option (List Int × List Int)
 | 0, _, _, _, _, _ => none
 | k + 1, D, s, z, G, y => if y < G then (if 0 ≤ y then (if y < (z.length : Int) then (impl_stepsFrom.l0 k D s (z.set (y : Int).toNat (-1)) G (wrap64 (y + 1))) else (none)) else (none)) else (if 0 ≤ s then (if s < (z.length : Int) then (impl_stepsFrom.l1 k D (z.set (s : Int).toNat 0) (([s] : List Int)) 0) else (none)) else (none))
def impl_stepsFrom.l1 : Nat → List (List Int) → List Int → List Int → Int → Option (List Int × List Int)
 | 0, _, _, _, _ => none
 | k + 1, z, D, s, y => if y < (s.length : Int) then (if 0 ≤ y then (if 0 ≤ (rd s y) then (if (rd s y) < (z.length : Int) then (impl_stepsFrom.l2 k z D s y (rd s y) (rd_L9 z (rd s y)) ((rd_L9 z (rd s y)).length : Int) 0) else (none)) else (none)) else (none)) else (some (D, s))
def impl_stepsFrom.l2 : Nat → List (List Int) → List Int → List Int → Int → Int → List Int → Int → Int → Option (List Int × List Int)
 | 0, _, _, _, _, _, _, _, _ => none
 | k + 1, I, z, G, J, D, y, L, s => if s < L then (if 0 ≤ s then (if s < (y.length : Int) then (if 0 ≤ (rd y s) then (if (rd y s) < (z.length : Int) then (if (rd z (rd y s)) < 0 then (if 0 ≤ D then (if D < (z.length : Int) then (if G.length < 17592186044416 then (impl_stepsFrom.l2 k I (z.set ((rd y s) : Int).toNat (wrap64 ((rd z D) + 1))) (G ++ [rd y s]) J D y L (wrap64 (s + 1))) else (none)) else (none)) else (none)) else (impl_stepsFrom.l2 k I z G J D y L (wrap64 (s + 1)))) else (none)) else (none)) else (none)) else (none)) else (impl_stepsFrom.l1 k I z G (wrap64 (J + 1)))
end
def impl_stepsFrom.f (k : Nat) (l0 : List (List Int)) (y : Int) : Option (List Int × List Int) := if 0 ≤ (l0.length : Int) then (if ((l0.length : Int) : Int).toNat ≤ 35184372088832 then ((some (List.replicate ((l0.length : Int) : Int).toNat 0 : List Int)).bind fun s => (impl_stepsFrom.l0 k l0 y s (s.length : Int) 0)) else (none)) else (none)
theorem impl_stepsFrom.calls (k : Nat) (A0 : Option Addr) (c0 : Nat) (l0 : List (List Int)) (J : Int) (X : List Int) (Y : List Int) (w : World) (bE : Kd.C (Kd.slice 3 (Kd.int .i64)) w A0 l0.length l0) (bF : l0.length ≤ c0) (h : impl_stepsFrom.f k l0 J = some (X, Y)) :
  Calls Try.prog 69 #[.slice A0 l0.length c0, .int .i64 J] w fun e w' => ∃ aZ a2 : Value, e = .returned (.tuple #[aZ, a2]) ∧ Kd.R (Kd.int .i64) 3 w' w.heap.size (fun k_ => some k_ ≠ (a2 : Value).ownBlock) aZ X ∧ Kd.R (Kd.int .i64) 3 w' w.heap.size (fun k_ => some k_ ≠ (aZ : Value).ownBlock) a2 Y ∧ Below w.heap.size w w' := by
 have bX := am bE
 have cD := am bF
 clear bE bF
 have HB := am (Below.refl w.heap.size w)
 have H := h; unfold impl_stepsFrom.f at H
 clear h
 by_cases c3 : 0 ≤ (l0.length : Int)
 ·rw [if_pos c3] at H
  have a3 := eq_true c3
  have a4 : decide (0 ≤ (l0.length : Int)) = true := decide_eq_true c3
  clear c3
  by_cases c4 : ((l0.length : Int) : Int).toNat ≤ 35184372088832
  ·rw [if_pos c4] at H
   have a5 := eq_true c4
   have a6 : decide (((l0.length : Int) : Int).toNat ≤ 35184372088832) = true := decide_eq_true c4
   clear c4
   obtain ⟨ab, a7⟩ : ∃ y_ : List Int, y_ = (List.replicate ((l0.length : Int) : Int).toNat 0) := ⟨_, rfl⟩
   replace H : (impl_stepsFrom.l0 k l0 J ab (ab.length : Int) 0) = some (X, Y) := by first | (rw [a7]; exact H) | exact H
   have bG := am a7
   clear a7
   have H' := am H
   clear H
   go_enter Try.func69, Try.ntmps69
   go_wp2_with (first | ((with_reducible refine gd 15 rfl ?_); refine Kd.R_make (Kd.int .i64) _ 3 rfl (N := 15) rfl 43 _ _ rfl (l0.length : Int) rfl rfl Try.underlying43 (.int .i64 0) 8 info3 rfl (by decide) (by omega) 0 (ok := fun _ => True) (okp := fun _ => True) rfl (fun _ hk => hk) trivial (oda) (Nat.le_trans (Nat.mul_le_mul_right _ (oda : (l0.length : Int).toNat ≤ 35184372088832)) (by omega)) (Below.refl _ _) (Nat.le_refl _) ?_; intro cE w5 aA hb hg_ hnew_; clear hg_ hnew_; (first | rw [← bG.out] at aA | (simp only [Int.reduceToNat] at aA; rw [← bG.out] at aA)); have bH := am (Kd.R_lower aA (below_size (bs HB.out))); replace HB := hs HB hb; clear hb aA; obtain ⟨bY, Z, bZ⟩ := Kd.R_slice bH.out; subst bZ))
   go_loopg [18] k (fun kq b0 w' => ∃ (O : List Int) (L : Int), b0 = .int .i64 L ∧ Aside0 (impl_stepsFrom.l0 kq l0 J O (ab.length : Int) L = some (X, Y)) ∧ Aside0 (kq ≤ k) ∧ Aside0 (Kd.R (Kd.int .i64) 3 w' w.heap.size (fun _ => True) (.slice bY ab.length Z) O) ∧ Aside0 (Below w.heap.size w w'))
   case atStart => exact ⟨(ab), (0), eqs, H', ⟨Nat.le_refl _⟩, ⟨rl bH.out⟩, ⟨bs HB.out⟩⟩
   case round =>
    clear H'
    try clear p2
    try clear c3
    try clear a3
    try clear a4
    try clear c4
    try clear a5
    try clear a6
    try clear c6
    obtain ⟨O, L, rfl, HA, ac, D, HB⟩ := hrel
    have hl6_1 := (Kd.R_reads' D.out).1
    rw [hl6_1] at D
    (try simp only [hl6_1])
    cases gk with
    | zero => exact absurd HA.out (by simp [impl_stepsFrom.l0])
    | succ k1 =>
     have H := HA.out
     clear HA
     simp only [impl_stepsFrom.l0] at H
     by_cases c8 : L < (ab.length : Int)
     ·rw [if_pos c8] at H
      have aC : decide (L < (ab.length : Int)) = true := decide_eq_true c8
      (try simp only [hl6_1] at aC)
      clear c8
      by_cases c9 : 0 ≤ L
      ·rw [if_pos c9] at H
       have bI : decide (0 ≤ L) = true := decide_eq_true c9
       clear c9
       by_cases ap : L < (O.length : Int)
       ·rw [if_pos ap] at H
        have a8 : decide (L < (O.length : Int)) = true := decide_eq_true ap
        (try simp only [hl6_1] at a8)
        clear ap
        obtain ⟨a9, ba⟩ : ∃ y_ : List Int, y_ = (O.set (L : Int).toNat (-1)) := ⟨_, rfl⟩
        replace H : (impl_stepsFrom.l0 k1 l0 J a9 (ab.length : Int) (wrap64 (L + 1))) = some (X, Y) := by first | (rw [ba]; exact H) | exact H
        have b1 := am ba
        clear ba
        have H' := am H
        clear H
        have ad : 0 ≤ (L : Int) := oda
        have ae : (L : Int) < ((O.length : Int) : Int) := oda
        obtain ⟨bc, cF, bJ, bK, b2, cG, bL⟩ := Kd.R_form D.out (by omega)
        (first | cases bJ | (injection bJ with ea_ en_ ec_; (first | subst ea_ | (injection ea_ with ea_; subst ea_)); subst ec_; clear en_))
        have b3 := am bK
        have cH := am bL
        clear bK b2 bL
        obtain ⟨bM, cI⟩ := Kd.R_celln 0 D.out (L : Int) ad ae
        replace ad := eq_true ad
        replace ae := eq_true ae
        have be := Kd.R_putg D.out (L : Int) (-1)
        go_wp2_with (first | ((with_reducible refine gate_store (t := 3) (p := 23) rfl ?_); refine store_event (t := 3) (p := 23) (v := ?vo_w13) (w1 := (wr.setCell ⟨bc, (L : Int).toNat, none⟩ (.int .i64 (-1)))) ?hg ?ho ?hn ?hr ?_; (case ho => rfl); (case hg => rfl); (case hn => rfl); (case hr => first | (go_simp; done) | (go_simp; rfl)); intro bg hw; have hg : wr.grownBy bg (some bc) := (by rw [hw]; exact be.2); have hp_ : Kd.R (Kd.int .i64) 3 bg w.heap.size (fun _ => True) (.slice (some ⟨bc, 0, none⟩) O.length Z) a9 := (by rw [hw, b1.out]; exact be.1); clear be; replace D := am hp_; replace HB := am ((by rw [hw]; exact below_set (HB.out) b3.out : Below w.heap.size w bg)); clear hg hw hp_))
        (try simp only [← hl6_1])
        go_roundg k1
        case measure => have := ac.out; omega
        case rel => exact ⟨(a9), (wrap64 (L + 1)), eqs, H', ⟨by have := ac.out; omega⟩, ⟨by (try simp only [hl6_1]); (with_reducible repeat (first | apply Kd.R_alloc | apply Kd.R_drewN | apply Kd.R_drew)); exact D.out⟩, ⟨bs HB.out⟩⟩
       ·rw [if_neg ap] at H
        exact absurd H (by simp)
      ·rw [if_neg c9] at H
       exact absurd H (by simp)
     ·rw [if_neg c8] at H
      have aC : decide (L < (ab.length : Int)) = false := decide_eq_false c8
      (try simp only [hl6_1] at aC)
      clear c8
      by_cases aq : 0 ≤ J
      ·rw [if_pos aq] at H
       have bN : decide (0 ≤ J) = true := decide_eq_true aq
       clear aq
       by_cases ar : J < (O.length : Int)
       ·rw [if_pos ar] at H
        have bh : decide (J < (O.length : Int)) = true := decide_eq_true ar
        (try simp only [hl6_1] at bh)
        clear ar
        obtain ⟨aI, bi⟩ : ∃ y_ : List Int, y_ = (O.set (J : Int).toNat 0) := ⟨_, rfl⟩
        replace H : (impl_stepsFrom.l1 k1 l0 aI (([J] : List Int)) 0) = some (X, Y) := by first | (rw [bi]; exact H) | exact H
        have b4 := am bi
        clear bi
        obtain ⟨bO, bj⟩ : ∃ y_ : List Int, y_ = (([J] : List Int)) := ⟨_, rfl⟩
        replace H : (impl_stepsFrom.l1 k1 l0 aI bO 0) = some (X, Y) := by first | (rw [bj]; exact H) | exact H
        have bP := am bj
        clear bj
        have H' := am H
        clear H
        have af : 0 ≤ (J : Int) := oda
        have ag : (J : Int) < ((O.length : Int) : Int) := oda
        obtain ⟨M, cJ, bQ, bR, b5, cK, bS⟩ := Kd.R_form D.out (by omega)
        (first | cases bQ | (injection bQ with ea_ en_ ec_; (first | subst ea_ | (injection ea_ with ea_; subst ea_)); subst ec_; clear en_))
        have bT := am bR
        have cL := am bS
        clear bR b5 bS
        obtain ⟨bU, cM⟩ := Kd.R_celln 0 D.out (J : Int) af ag
        replace af := eq_true af
        replace ag := eq_true ag
        have bk := Kd.R_putg D.out (J : Int) 0
        go_wp2_with (first | ((with_reducible refine gate_store (t := 3) (p := 27) rfl ?_); refine store_event (t := 3) (p := 27) (v := ?vo_w18) (w1 := (wr.setCell ⟨M, (J : Int).toNat, none⟩ (.int .i64 0))) ?hg ?ho ?hn ?hr ?_; (case ho => rfl); (case hg => rfl); (case hn => rfl); (case hr => first | (go_simp; done) | (go_simp; rfl)); intro bl hw; have hg : wr.grownBy bl (some M) := (by rw [hw]; exact bk.2); have hp_ : Kd.R (Kd.int .i64) 3 bl w.heap.size (fun _ => True) (.slice (some ⟨M, 0, none⟩) O.length Z) aI := (by rw [hw, b4.out]; exact bk.1); clear bk; replace D := am hp_; replace HB := am ((by rw [hw]; exact below_set (HB.out) bT.out : Below w.heap.size w bl)); clear hg hw hp_) | ((with_reducible refine gd 29 rfl ?_); refine rli (k := .i64) 3 29 ([J] : List Int) ?_; intro cN cO au hb hg_ hnew_; clear hg_ hnew_; (first | rw [← bP.out] at au | (simp only [Int.reduceToNat] at au; rw [← bP.out] at au)); have b6 := am (Kd.R_lower (Kd.R_new' au (rk D)) (below_size (bs HB.out))); replace D := re D au hb; replace HB := hs HB hb; clear hb au))
        go_loopg [8, 9] k1 (fun kq v8 v9 w' => ∃ (av : List Int) (y : List Int) (s : Int), v9 = .int .i64 s ∧ Aside0 (impl_stepsFrom.l1 kq l0 av y s = some (X, Y)) ∧ Aside0 (kq ≤ k1) ∧ Aside0 (Kd.R (Kd.int .i64) 3 w' w.heap.size (fun k_ => some k_ ≠ (v8 : Value).ownBlock) (.slice (some ⟨M, 0, none⟩) O.length Z) av) ∧ Aside0 (Kd.R (Kd.int .i64) 3 w' w.heap.size (fun k_ => some k_ ≠ ((.slice (some ⟨M, 0, none⟩) O.length Z) : Value).ownBlock) v8 y) ∧ Aside0 (Below w.heap.size w w'))
        case atStart => exact ⟨(aI), (bO), (0), eqs, H', ⟨Nat.le_refl _⟩, ⟨by (try simp only [hl6_1]); (with_reducible repeat (first | apply Kd.R_alloc | apply Kd.R_drewN | apply Kd.R_drew)); exact Kd.R_mono D.out (fun _ hk => hk.2)⟩, ⟨by (try simp only [hl6_1]); (with_reducible repeat (first | apply Kd.R_alloc | apply Kd.R_drewN | apply Kd.R_drew)); exact Kd.R_mono b6.out (fun _ hk => hk.2)⟩, ⟨bs HB.out⟩⟩
        case round =>
         clear H'
         try clear c1
         try clear p1
         try clear q1
         try clear b7
         try clear p2
         try clear c3
         try clear a3
         try clear a4
         try clear c4
         try clear a5
         try clear a6
         try clear c6
         try clear p6
         try clear c8
         try clear aC
         try clear c9
         try clear bI
         try clear ap
         try clear a8
         try clear ad
         try clear ae
         try clear b8
         try clear b9
         try clear aq
         try clear bN
         try clear ar
         try clear bh
         try clear af
         try clear ag
         try clear ce
         try clear cf
         try clear bM
         try clear bU
         try clear ad
         try clear af
         try clear p2
         try clear ae
         try clear ag
         obtain ⟨av, y, s, rfl, HA, aw, D, T, HB⟩ := hrel
         have hl6_2 := (Kd.R_reads' D.out).1
         rw [hl6_2] at D
         (try simp only [hl6_2])
         (try simp only [hl6_2] at T)
         cases gk with
         | zero => exact absurd HA.out (by simp [impl_stepsFrom.l1])
         | succ k2 =>
          have H := HA.out
          clear HA
          simp only [impl_stepsFrom.l1] at H
          by_cases ah : s < (y.length : Int)
          ·rw [if_pos ah] at H
           have ai : decide (s < (y.length : Int)) = true := decide_eq_true ah
           (try simp only [hl6_2] at ai)
           (try simp only [hl6_1] at ai)
           clear ah
           by_cases aD : 0 ≤ s
           ·rw [if_pos aD] at H
            have cg : decide (0 ≤ s) = true := decide_eq_true aD
            clear aD
            by_cases aE : 0 ≤ (rd y s)
            ·rw [if_pos aE] at H
             have ch : decide (0 ≤ (rd y s)) = true := decide_eq_true aE
             clear aE
             by_cases aG : (rd y s) < (l0.length : Int)
             ·rw [if_pos aG] at H
              have ci : decide ((rd y s) < (l0.length : Int)) = true := decide_eq_true aG
              clear aG
              have H' := am H
              clear H
              obtain ⟨cP, cQ, cj⟩ := Kd.R_slice T.out
              subst cj
              have aJ : 0 ≤ (s : Int) := oda
              have aK : s < (y.length : Int) := oda
              obtain ⟨cR, ck, cl⟩ := Kd.at_int (Kd.R_reads' T.out).2.2 s aJ aK
              cases ck
              replace aJ := eq_true aJ
              replace aK := eq_true aK
              have aM : 0 ≤ ((rd y s) : Int) := oda
              have aN : (rd y s) < (l0.length : Int) := oda
              obtain ⟨cS, cT, cU, cm, bm, hl350_0, hi350_0⟩ := at_L9 bX.out (rd y s) aM aN
              cases cm
              replace bm := cb HB bm
              have bV := am hi350_0
              have cV := am hl350_0
              clear hi350_0 hl350_0
              replace aM := eq_true aM
              replace aN := eq_true aN
              go_wp2
              go_loopg [8, 45] k2 (fun kq v8 cn w' => ∃ (G : List Int) (aa : List Int) (z : Int), cn = .int .i64 z ∧ Aside0 (impl_stepsFrom.l2 kq l0 G aa s (rd y s) (rd_L9 l0 (rd y s)) ((rd_L9 l0 (rd y s)).length : Int) z = some (X, Y)) ∧ Aside0 (kq ≤ k2) ∧ Aside0 (Kd.R (Kd.int .i64) 3 w' w.heap.size (fun k_ => some k_ ≠ (v8 : Value).ownBlock) (.slice (some ⟨M, 0, none⟩) av.length Z) G) ∧ Aside0 (Kd.R (Kd.int .i64) 3 w' w.heap.size (fun k_ => some k_ ≠ ((.slice (some ⟨M, 0, none⟩) av.length Z) : Value).ownBlock) v8 aa) ∧ Aside0 (Below w.heap.size w w'))
              case atStart => exact ⟨(av), (y), (0), eqs, H', ⟨Nat.le_refl _⟩, ⟨by (try simp only [hl6_1]); (try simp only [hl6_2]); (with_reducible repeat (first | apply Kd.R_alloc | apply Kd.R_drewN | apply Kd.R_drew)); exact D.out⟩, ⟨by (try simp only [hl6_1]); (try simp only [hl6_2]); (with_reducible repeat (first | apply Kd.R_alloc | apply Kd.R_drewN | apply Kd.R_drew)); exact T.out⟩, ⟨bs HB.out⟩⟩
              case round =>
               clear H'
               try clear c1
               try clear p1
               try clear q1
               try clear b7
               try clear c2
               try clear p2
               try clear c3
               try clear a3
               try clear a4
               try clear p3
               try clear q3
               try clear cW
               try clear c4
               try clear a5
               try clear a6
               try clear c6
               try clear p6
               try clear c8
               try clear aC
               try clear c9
               try clear bI
               try clear ap
               try clear a8
               try clear ad
               try clear ae
               try clear b8
               try clear b9
               try clear aq
               try clear bN
               try clear ar
               try clear bh
               try clear af
               try clear ag
               try clear ce
               try clear cf
               try clear ah
               try clear ai
               try clear aD
               try clear cg
               try clear aE
               try clear ch
               try clear aG
               try clear ci
               try clear bM
               try clear bU
               try clear cl
               try clear bm
               try clear p1
               try clear ad
               try clear af
               try clear p2
               try clear aJ
               try clear aM
               try clear p6
               try clear q1
               try clear ae
               try clear ag
               try clear aK
               try clear aN
               obtain ⟨G, aa, z, rfl, HA, ax, D, T, HB⟩ := hrel
               have hl6_3 := (Kd.R_reads' D.out).1
               rw [hl6_3] at D
               (try simp only [hl6_3])
               (try simp only [hl6_3] at T)
               cases gk with
               | zero => exact absurd HA.out (by simp [impl_stepsFrom.l2])
               | succ k3 =>
                have H := HA.out
                clear HA
                simp only [impl_stepsFrom.l2] at H
                by_cases ay : z < ((rd_L9 l0 (rd y s)).length : Int)
                ·rw [if_pos ay] at H
                 have co : decide (z < ((rd_L9 l0 (rd y s)).length : Int)) = true := decide_eq_true ay
                 clear ay
                 by_cases aQ : 0 ≤ z
                 ·rw [if_pos aQ] at H
                  have cX : decide (0 ≤ z) = true := decide_eq_true aQ
                  clear aQ
                  by_cases aR : z < ((rd_L9 l0 (rd y s)).length : Int)
                  ·rw [if_pos aR] at H
                   have cY : decide (z < ((rd_L9 l0 (rd y s)).length : Int)) = true := decide_eq_true aR
                   clear aR
                   by_cases aT : 0 ≤ (rd (rd_L9 l0 (rd y s)) z)
                   ·rw [if_pos aT] at H
                    have cZ : decide (0 ≤ (rd (rd_L9 l0 (rd y s)) z)) = true := decide_eq_true aT
                    clear aT
                    by_cases aU : (rd (rd_L9 l0 (rd y s)) z) < (G.length : Int)
                    ·rw [if_pos aU] at H
                     have c5 : decide ((rd (rd_L9 l0 (rd y s)) z) < (G.length : Int)) = true := decide_eq_true aU
                     clear aU
                     by_cases az : (rd G (rd (rd_L9 l0 (rd y s)) z)) < 0
                     ·rw [if_pos az] at H
                      have cp : decide ((rd G (rd (rd_L9 l0 (rd y s)) z)) < 0) = true := decide_eq_true az
                      clear az
                      by_cases aV : 0 ≤ (rd y s)
                      ·rw [if_pos aV] at H
                       have c7 : decide (0 ≤ (rd y s)) = true := decide_eq_true aV
                       clear aV
                       by_cases aW : (rd y s) < (G.length : Int)
                       ·rw [if_pos aW] at H
                        have da : decide ((rd y s) < (G.length : Int)) = true := decide_eq_true aW
                        clear aW
                        obtain ⟨aX, bn⟩ : ∃ y_ : List Int, y_ = (G.set ((rd (rd_L9 l0 (rd y s)) z) : Int).toNat (wrap64 ((rd G (rd y s)) + 1))) := ⟨_, rfl⟩
                        replace H : (if aa.length < 17592186044416 then (impl_stepsFrom.l2 k3 l0 aX (aa ++ [rd (rd_L9 l0 (rd y s)) z]) s (rd y s) (rd_L9 l0 (rd y s)) ((rd_L9 l0 (rd y s)).length : Int) (wrap64 (z + 1))) else (none)) = some (X, Y) := by first | (rw [bn]; exact H) | exact H
                        have ct := am bn
                        clear bn
                        by_cases aY : aa.length < 17592186044416
                        ·rw [if_pos aY] at H
                         have cu := am aY
                         clear aY
                         obtain ⟨bW, bo⟩ : ∃ y_ : List Int, y_ = (aa ++ [rd (rd_L9 l0 (rd y s)) z]) := ⟨_, rfl⟩
                         replace H : (impl_stepsFrom.l2 k3 l0 aX bW s (rd y s) (rd_L9 l0 (rd y s)) ((rd_L9 l0 (rd y s)).length : Int) (wrap64 (z + 1))) = some (X, Y) := by first | (rw [bo]; exact H) | exact H
                         have cv := am bo
                         clear bo
                         have H' := am H
                         clear H
                         have aj : 0 ≤ (z : Int) := oda
                         have ak : z < ((rd_L9 l0 (rd y s)).length : Int) := oda
                         obtain ⟨cy, br, aH⟩ := Kd.at_int bV.out z aj ak
                         cases br
                         replace aH := cb HB aH
                         replace aj := eq_true aj
                         replace ak := eq_true ak
                         have al : 0 ≤ ((rd (rd_L9 l0 (rd y s)) z) : Int) := oda
                         have an : (rd (rd_L9 l0 (rd y s)) z) < (G.length : Int) := oda
                         obtain ⟨bt, bu, ao⟩ := Kd.at_int (Kd.R_reads' D.out).2.2 (rd (rd_L9 l0 (rd y s)) z) al an
                         obtain rfl : (⟨M, 0, none⟩ : Addr) = bt := (by injection bu)
                         (first | simp only [add_plain] at ao | simp only [add_at] at ao | simp only [Addr.add, Nat.zero_add] at ao | skip)
                         replace al := eq_true al
                         replace an := eq_true an
                         have bv : 0 ≤ ((rd y s) : Int) := oda
                         have bw : (rd y s) < (G.length : Int) := oda
                         obtain ⟨cz, cA, bz⟩ := Kd.at_int (Kd.R_reads' D.out).2.2 (rd y s) bv bw
                         obtain rfl : (⟨M, 0, none⟩ : Addr) = cz := (by injection cA)
                         (first | simp only [add_plain] at bz | simp only [add_at] at bz | simp only [Addr.add, Nat.zero_add] at bz | skip)
                         replace bv := eq_true bv
                         replace bw := eq_true bw
                         have bA : 0 ≤ ((rd (rd_L9 l0 (rd y s)) z) : Int) := oda
                         have bB : ((rd (rd_L9 l0 (rd y s)) z) : Int) < ((G.length : Int) : Int) := oda
                         obtain ⟨db, dc⟩ := Kd.R_celln 0 D.out ((rd (rd_L9 l0 (rd y s)) z) : Int) bA bB
                         replace bA := eq_true bA
                         replace bB := eq_true bB
                         have bC := Kd.R_putg D.out ((rd (rd_L9 l0 (rd y s)) z) : Int) (wrap64 ((rd G (rd y s)) + 1))
                         go_wp2_with (first | ((with_reducible refine gate_store (t := 3) (p := 61) rfl ?_); refine store_event (t := 3) (p := 61) (v := ?vo_w37) (w1 := (wr.setCell ⟨M, ((rd (rd_L9 l0 (rd y s)) z) : Int).toNat, none⟩ (.int .i64 (wrap64 ((rd G (rd y s)) + 1))))) ?hg ?ho ?hn ?hr ?_; (case ho => rfl); (case hg => rfl); (case hn => rfl); (case hr => first | (go_simp; done) | (go_simp; rfl)); intro bD hw; have hg : wr.grownBy bD (some M) := (by rw [hw]; exact bC.2); have hp_ : Kd.R (Kd.int .i64) 3 bD w.heap.size (fun k_ => some k_ ≠ (u8 : Value).ownBlock) (.slice (some ⟨M, 0, none⟩) G.length Z) aX := (by rw [hw, ct.out]; exact bC.1); clear bC; replace D := am hp_; replace T := am (Kd.R_after (v := (.slice (some ⟨M, 0, none⟩) G.length Z)) (v1 := (.slice (some ⟨M, 0, none⟩) G.length Z)) (ok := (fun _ => True)) (by (with_reducible repeat (first | apply Kd.R_alloc | apply Kd.R_drewN | apply Kd.R_drew)); exact Kd.R_mono T.out (fun _ hk => ⟨trivial, hk⟩)) hg (.inl rfl)); replace HB := am ((by rw [hw]; exact below_set (HB.out) bT.out : Below w.heap.size w bD)); clear hg hw hp_) | ((with_reducible refine gate_builtin (b := .append) (xs := #[.tmp 62, .tmp 64]) rfl ?_); at_builtin; refine Kd.R_append (Kd.int .i64) (w0 := w) w.heap.size rfl (.tmp 62) (.tmp 64) 43 3 (.int .i64 0) 8 rfl Try.underlying43 info3 rfl (by decide) (by omega) u8 aa (rd (rd_L9 l0 (rd y s)) z) [.int .i64 (rd (rd_L9 l0 (rd y s)) z)] (fun k_ => some k_ ≠ (.slice (some ⟨M, 0, none⟩) G.length Z : Value).ownBlock) (fun _ => False) rfl rfl ?aP (fun _ hk => hk.elim) ?aF ?aO ?aB ?aS ?aL ?_; (case aP => exact rfl); (case aB => exact (bs HB.out)); (case aF => exact (fun k_ hk => Kd.fresh' (rk D) k_ hk)); (case aO => exact (by (with_reducible repeat (first | apply Kd.R_alloc | apply Kd.R_drewN | apply Kd.R_drew)); exact Kd.R_mono T.out (fun _ hk => hk.2))); (case aS => exact (below_size (bs HB.out))); (case aL => have := cu.out; omega); intro dd de ho hb hg hat; rw [← cv.out] at ho; replace D := am (Kd.R_after (ok := (fun _ => True)) (by (with_reducible repeat (first | apply Kd.R_alloc | apply Kd.R_drewN | apply Kd.R_drew)); exact Kd.R_mono D.out (fun _ hk => ⟨trivial, hk⟩)) hg hat); replace HB := am hb; have cB := am ho; clear T; clear ho hb hg hat))
                         (try simp only [← hl6_3])
                         go_roundg k3
                         case measure => have := ac.out; have := aw.out; have := ax.out; omega
                         case rel => exact ⟨(aX), (bW), (wrap64 (z + 1)), eqs, H', ⟨by have := ac.out; have := aw.out; have := ax.out; omega⟩, ⟨by (try simp only [hl6_1]); (try simp only [hl6_2]); (try simp only [hl6_3]); (with_reducible repeat (first | apply Kd.R_alloc | apply Kd.R_drewN | apply Kd.R_drew)); exact Kd.R_mono D.out (fun _ hk => hk.2)⟩, ⟨by (try simp only [hl6_1]); (try simp only [hl6_2]); (try simp only [hl6_3]); (with_reducible repeat (first | apply Kd.R_alloc | apply Kd.R_drewN | apply Kd.R_drew)); exact cB.out⟩, ⟨bs HB.out⟩⟩
                        ·rw [if_neg aY] at H
                         exact absurd H (by simp)
                       ·rw [if_neg aW] at H
                        exact absurd H (by simp)
                      ·rw [if_neg aV] at H
                       exact absurd H (by simp)
                     ·rw [if_neg az] at H
                      have cp : decide ((rd G (rd (rd_L9 l0 (rd y s)) z)) < 0) = false := decide_eq_false az
                      clear az
                      have H' := am H
                      clear H
                      have aj : 0 ≤ (z : Int) := oda
                      have ak : z < ((rd_L9 l0 (rd y s)).length : Int) := oda
                      obtain ⟨cy, br, aH⟩ := Kd.at_int bV.out z aj ak
                      cases br
                      replace aH := cb HB aH
                      replace aj := eq_true aj
                      replace ak := eq_true ak
                      have al : 0 ≤ ((rd (rd_L9 l0 (rd y s)) z) : Int) := oda
                      have an : (rd (rd_L9 l0 (rd y s)) z) < (G.length : Int) := oda
                      obtain ⟨bt, bu, ao⟩ := Kd.at_int (Kd.R_reads' D.out).2.2 (rd (rd_L9 l0 (rd y s)) z) al an
                      obtain rfl : (⟨M, 0, none⟩ : Addr) = bt := (by injection bu)
                      (first | simp only [add_plain] at ao | simp only [add_at] at ao | simp only [Addr.add, Nat.zero_add] at ao | skip)
                      replace al := eq_true al
                      replace an := eq_true an
                      go_wp2
                      (try simp only [← hl6_3])
                      go_roundg k3
                      case measure => have := ac.out; have := aw.out; have := ax.out; omega
                      case rel => exact ⟨(G), (aa), (wrap64 (z + 1)), eqs, H', ⟨by have := ac.out; have := aw.out; have := ax.out; omega⟩, ⟨by (try simp only [hl6_1]); (try simp only [hl6_2]); (try simp only [hl6_3]); (with_reducible repeat (first | apply Kd.R_alloc | apply Kd.R_drewN | apply Kd.R_drew)); exact D.out⟩, ⟨by (try simp only [hl6_1]); (try simp only [hl6_2]); (try simp only [hl6_3]); (with_reducible repeat (first | apply Kd.R_alloc | apply Kd.R_drewN | apply Kd.R_drew)); exact T.out⟩, ⟨bs HB.out⟩⟩
                    ·rw [if_neg aU] at H
                     exact absurd H (by simp)
                   ·rw [if_neg aT] at H
                    exact absurd H (by simp)
                  ·rw [if_neg aR] at H
                   exact absurd H (by simp)
                 ·rw [if_neg aQ] at H
                  exact absurd H (by simp)
                ·rw [if_neg ay] at H
                 have co : decide (z < ((rd_L9 l0 (rd y s)).length : Int)) = false := decide_eq_false ay
                 clear ay
                 have H' := am H
                 clear H
                 go_wp2
                 (try simp only [← hl6_2, ← hl6_3])
                 go_roundg k3
                 case measure => have := ac.out; have := aw.out; have := ax.out; omega
                 case rel => exact ⟨(G), (aa), (wrap64 (s + 1)), eqs, H', ⟨by have := ac.out; have := aw.out; have := ax.out; omega⟩, ⟨by (try simp only [hl6_1]); (try simp only [hl6_2]); (try simp only [hl6_3]); (with_reducible repeat (first | apply Kd.R_alloc | apply Kd.R_drewN | apply Kd.R_drew)); exact D.out⟩, ⟨by (try simp only [hl6_1]); (try simp only [hl6_2]); (try simp only [hl6_3]); (with_reducible repeat (first | apply Kd.R_alloc | apply Kd.R_drewN | apply Kd.R_drew)); exact T.out⟩, ⟨bs HB.out⟩⟩
             ·rw [if_neg aG] at H
              exact absurd H (by simp)
            ·rw [if_neg aE] at H
             exact absurd H (by simp)
           ·rw [if_neg aD] at H
            exact absurd H (by simp)
          ·rw [if_neg ah] at H
           have ai : decide (s < (y.length : Int)) = false := decide_eq_false ah
           (try simp only [hl6_3] at ai)
           (try simp only [hl6_2] at ai)
           (try simp only [hl6_1] at ai)
           clear ah
           simp only [Option.some.injEq, Prod.mk.injEq] at H
           obtain ⟨rfl, rfl⟩ := H
           obtain ⟨df, dg, cC⟩ := Kd.R_slice T.out
           subst cC
           go_wp2
           go_ret2
           exact ⟨_, _, eqr, by (with_reducible repeat (first | apply Kd.R_alloc | apply Kd.R_drewN | apply Kd.R_drew)); exact D.out, by (with_reducible repeat (first | apply Kd.R_alloc | apply Kd.R_drewN | apply Kd.R_drew)); exact T.out, bs HB.out⟩
       ·rw [if_neg ar] at H
        exact absurd H (by simp)
      ·rw [if_neg aq] at H
       exact absurd H (by simp)
  ·rw [if_neg c4] at H
   exact absurd H (by simp)
 ·rw [if_neg c3] at H
  exact absurd H (by simp)

end Go.Proofs.Ytohmemckdogljaa.QFnExactWalkPath
