/- Contracts of the Go functions that this law reaches: each does what its plain Lean function says. No condition. -/
import Derived.Test.YtohmemckdogljaaQFnExactWalkThreesx0
import Derived.Test.YtohmemckdogljaaQFnExactWalkThreesx11
namespace Go.Proofs.Ytohmemckdogljaa.QFnExactWalkThrees
open Go.RowKit Go.Proofs.YtohmemckdogljaaW.PrintWords Go.Proofs.YtohmemckdogljaaW.PrintLast Go.Proofs.YtohmemckdogljaaW.PrintMore Go.Proofs.Ytohmemckdogljaa.Bl
attribute [local go_sem] max2_int min2_int max_two min_two max_three min_three max_four min_four   -- for this text's walks alone
set_option linter.unusedVariables false
set_option linter.unusedSimpArgs false
set_option maxHeartbeats 8000000
set_option maxRecDepth 100000

/-! ### impl_nearPlaces: function 68 -/
mutual
def impl_nearPlaces.l0 : Nat → List (List Int) → List (S36) → Int → Int → List (S36) → List (S56) → Option ((List (List Int)))
 | 0, _, _, _, _, _, _ => none
 | k + 1, z, y, D, s, G, I => if s < D then (if 0 ≤ s then (if s < (y.length : Int) then ((impl_GraphNear.f k G I ((rd_T36 y s).f0) ((rd_T36 y s).f1)).bind fun J => (impl_nearPlaces.l1 k z s y D s J (J.length : Int) 0 G I)) else (none)) else (none)) else (some z)
def impl_nearPlaces.l1 : Nat → List (List Int) → Int → List (S36) → Int → Int → List (S36) → Int → Int → List (S36) → List (S56) → Option ((List (List Int)))
 | 0, _, _, _, _, _, _, _, _, _, _ => none
 | k + 1, z, s, J, L, M, D, O, y, G, I => if y < O then (if 0 ≤ y then (if y < (D.length : Int) then (if 0 ≤ s then (if s < (z.length : Int) then ((impl_nodePlace.f k G I ((rd_T36 D y).f0) ((rd_T36 D y).f1)).bind fun T => (if (rd_L9 z s).length < 17592186044416 then (impl_nearPlaces.l1 k (z.set (s : Int).toNat ((rd_L9 z s) ++ [T])) s J L M D O (wrap64 (y + 1)) G I) else (none))) else (none)) else (none)) else (none)) else (none)) else (impl_nearPlaces.l0 k z J L (wrap64 (M + 1)) G I)
end
def impl_nearPlaces.f (k : Nat) (s : List (S36)) (y : List (S56)) : Option ((List (List Int))) := if 0 ≤ (s.length : Int) then (if ((s.length : Int) : Int).toNat ≤ 11728124029610 then (impl_nearPlaces.l0 k (List.replicate ((s.length : Int) : Int).toNat []) s (s.length : Int) 0 s y) else (none)) else (none)
def impl_nearPlaces.T8 : Bool × List (List Nat × List Nat) := (true, [([], []), ([], []), ([], []), ([], []), ([2, 3], [2, 3]), ([4], [4]), ([], []), ([], []), ([6, 7], [6, 7]), ([8], [8]), ([5, 9, 8], [5, 9]), ([0, 1, 0, 1, 2, 3, 4, 5, 6, 7, 8, 9, 10], [0, 1]), ([11, 10, 10, 0, 1, 2, 3, 4, 5, 6, 7, 8, 9, 10], [10, 11])])
def impl_nearPlaces.B8 : List Nat := [0, 0, 0, 0, 12, 28, 0, 0, 192, 448, 1020, 2047, 4095]
theorem impl_nearPlaces.tab8 : rtab .any (opsOf Try.f68 8) = impl_nearPlaces.T8 := by kernel_rfl
theorem impl_nearPlaces.bits8 : waitsOk impl_nearPlaces.T8.2 impl_nearPlaces.B8 = true := by kernel_rfl
theorem impl_nearPlaces.calls (k : Nat) (aq : Option Addr) (Z : Nat) (z : List (S36)) (aa : Option Addr) (ab : Nat) (X : List (S56)) (r : List (List Int)) (w : World) (bi : Kd.C k36 w aq z.length z) (bj : z.length ≤ Z) (bk : Kd.C k56 w aa X.length X) (bl : X.length ≤ ab) (h : impl_nearPlaces.f k z X = some r) :
  Calls Try.prog 68 #[.agg #[.slice aq z.length Z, .slice aa X.length ab]] w fun e w' => ∃ bm : Value, e = .returned (bm) ∧ Kd.S (Kd.slice 3 (Kd.int .i64)) 43 w' w.heap.size (fun _ => True) bm r ∧ Below w.heap.size w w' := by
 have hu34 := Try.underlying34
 have hu36 := Try.underlying36
 have aN := am bi
 have bn := am bj
 clear bi bj
 have bo := am bk
 have br := am bl
 clear bk bl
 have HB := am (Below.refl w.heap.size w)
 have H := h; unfold impl_nearPlaces.f at H
 clear h
 by_cases c2 : 0 ≤ (z.length : Int)
 ·rw [if_pos c2] at H
  have bt := eq_true c2
  have bu : decide (0 ≤ (z.length : Int)) = true := decide_eq_true c2
  clear c2
  by_cases c3 : ((z.length : Int) : Int).toNat ≤ 11728124029610
  ·rw [if_pos c3] at H
   have bv := eq_true c3
   have bw : decide (((z.length : Int) : Int).toNat ≤ 11728124029610) = true := decide_eq_true c3
   clear c3
   obtain ⟨bz, aQ⟩ : ∃ y_ : List (List Int), y_ = (List.replicate ((z.length : Int) : Int).toNat []) := ⟨_, rfl⟩
   replace H : (impl_nearPlaces.l0 k bz z (z.length : Int) 0 z X) = some r := by first | (rw [aQ]; exact H) | exact H
   have bA := am aQ
   clear aQ
   have H' := am H
   clear H
   go_enter Try.func68, Try.ntmps68
   go_wp2_with (first | ((with_reducible refine gd 1 rfl ?_); refine bx 1 (cs := #[.slice aq z.length Z, .slice aa X.length ab]) (t := 34) ?_; intro ad hg w4 hbox hb; have I := am hbox; have b5 := gwb HB hg; replace HB := hs HB hb; clear hb hbox hg; obtain ⟨bB, bC⟩ := bc2 (w := w4) I.out; have bD := blk_frozen I.out) | ((with_reducible refine gd 11 rfl ?_); refine Kd.S_make (Kd.slice 3 (Kd.int .i64)) _ 43 rfl (N := 11) rfl 84 _ _ rfl (z.length : Int) rfl rfl Try.underlying84 (.slice none 0 0) 24 info43 rfl (by decide) (by omega) [] (ok := fun _ => True) (okp := fun _ => True) ⟨_, rfl, Kd.R_nil _ _ _ _ _⟩ (fun _ hk => hk) trivial (oda) (Nat.le_trans (Nat.mul_le_mul_right _ (oda : (z.length : Int).toNat ≤ 11728124029610)) (by omega)) (Below.refl _ _) (Nat.le_refl _) ?_; intro aR w6 ah hb hg_ hnew_; clear hg_ hnew_; (first | rw [← bA.out] at ah | (simp only [Int.reduceToNat] at ah; rw [← bA.out] at ah)); have b6 := am (Kd.S_lower ah (below_size (bs HB.out))); replace I := bb I hb rfl; replace HB := hs HB hb; clear hb ah; obtain ⟨bE, bF⟩ := bc2 (w := w6) I.out; have bG := blk_frozen I.out))
   go_loopg [15] k (fun kq b7 w' => ∃ (ar : List (List Int)) (s : Int), b7 = .int .i64 s ∧ Aside0 (impl_nearPlaces.l0 kq ar z (z.length : Int) s z X = some r) ∧ Aside0 (kq ≤ k) ∧ Aside0 (Kd.S (Kd.slice 3 (Kd.int .i64)) 43 w' w.heap.size (fun _ => True) aR ar) ∧ Aside0 (w'.heap[ad]? = some (.cells #[(.slice aq z.length Z), (.slice aa X.length ab)] 34 (0, 0))) ∧ Aside0 (Below w.heap.size w w'))
   case atStart => exact ⟨(bz), (0), eqs, H', ⟨Nat.le_refl _⟩, ⟨by (with_reducible repeat (first | apply Kd.S_alloc | apply Kd.S_drewN | apply Kd.S_drew)); exact b6.out⟩, ⟨bf I.out⟩, ⟨bs HB.out⟩⟩
   case round =>
    clear H'
    try clear c2
    try clear bt
    try clear bu
    try clear p2
    try clear c3
    try clear bv
    try clear bw
    try clear c6
    try clear bB bC
    try clear bE bF
    try clear bD
    try clear bG
    obtain ⟨ar, s, rfl, HA, au, J, I, HB⟩ := hrel
    cases gk with
    | zero => exact absurd HA.out (by simp [impl_nearPlaces.l0])
    | succ k1 =>
     have H := HA.out
     clear HA
     simp only [impl_nearPlaces.l0] at H
     by_cases c9 : s < (z.length : Int)
     ·rw [if_pos c9] at H
      have bH : decide (s < (z.length : Int)) = true := decide_eq_true c9
      clear c9
      by_cases ai : 0 ≤ s
      ·rw [if_pos ai] at H
       have b8 : decide (0 ≤ s) = true := decide_eq_true ai
       clear ai
       by_cases aj : s < (z.length : Int)
       ·rw [if_pos aj] at H
        have b9 : decide (s < (z.length : Int)) = true := decide_eq_true aj
        clear aj
        replace H := Option.bind_eq_some_iff.mp H
        obtain ⟨D, bI, H⟩ := H
        try dsimp -simprocs only at H
        have ce := am bI
        clear bI
        have H' := am H
        clear H
        have av : 0 ≤ (s : Int) := oda
        have aw : s < (z.length : Int) := oda
        obtain ⟨af, cf, aT, aU⟩ := at_T36 aN.out s av aw
        cases cf
        replace aT := cb HB aT
        replace aU := cb HB aU
        replace av := eq_true av
        replace aw := eq_true aw
        go_wp2_with (first | ((with_reducible refine gd 5 rfl ?_); refine bx 5 (cs := #[.int .i64 0, .int .i64 0]) (t := 36) ?_; intro ac hg bJ hbox hb; replace J := am (Kd.S_below (by (with_reducible repeat (first | apply Kd.S_alloc | apply Kd.S_drewN | apply Kd.S_drew)); exact J.out) hb); have M := am hbox; have cg := gwb HB hg; replace HB := hs HB hb; have ch := nq I hg; have ci := nq' I hg; replace I := bb I hb rfl; clear hb hbox hg; have cS := ci.out; have cT := ch.out; obtain ⟨cj, ck⟩ := bc2 (w := bJ) M.out; have cl := blk_frozen M.out; obtain ⟨cm, cn⟩ := bc2 (w := bJ) I.out; have co := blk_frozen I.out) | ((with_reducible refine gc 55 rfl ?_); refine gl 22 Try.func55 #[.agg #[.slice (some af) z.length Z, .slice aa X.length ab], .agg #[.int .i64 ((rd_T36 z s).f0), .int .i64 ((rd_T36 z s).f1)]] ?_; (with_reducible refine (impl_GraphNear.calls k1 _ _ z _ _ X ((rd_T36 z s).f0) ((rd_T36 z s).f1) D _ ?aV ?aW ?aX ?aY ce.out).mono ?_); (case aV => exact Kd.C_below aN.out (bs HB.out)); (case aW => exact bn.out); (case aX => exact Kd.C_below bo.out (bs HB.out)); (case aY => exact br.out); rintro e cU ⟨cV, rfl, bK, hb⟩; refine ⟨_, rfl, ?_⟩; replace J := am (Kd.S_below (by (with_reducible repeat (first | apply Kd.S_alloc | apply Kd.S_drewN | apply Kd.S_drew)); exact (Kd.S_mono (Kd.S_far (p := ⟨ac, 1, none⟩) (Kd.S_far (p := ⟨ac, 0, none⟩) (Kd.S_types J.out M.out (by decide)) (fun _ hk => hk.2) (.int .i64 ((rd_T36 z s).f0))) (fun _ hk => hk.2) (.int .i64 ((rd_T36 z s).f1))) (fun _ h_ => h_.1))) hb); have bL := am (Kd.R_lower (Kd.R_newB bK (g := ac) (o := .cells #[.int .i64 ((rd_T36 z s).f0), .int .i64 ((rd_T36 z s).f1)] 36 (0, 0)) (bp M.out rfl)) (below_size (bs HB.out))); replace I := am (blk_below (g := ad) (o := .cells #[.slice (some af) z.length Z, .slice aa X.length ab] 34 (0, 0)) (bf I.out) hb); replace M := bq #[.int .i64 ((rd_T36 z s).f0), .int .i64 ((rd_T36 z s).f1)] M hb; replace HB := hs HB hb; (try clear hb); (try clear hb2); (try clear hk); (try clear hi); (try clear bK); obtain ⟨cp, bM, ct⟩ := Kd.R_slice bL.out; subst ct))
        go_loopg [24] k1 (fun kq cu w' => ∃ (O : List (List Int)) (G : Int), cu = .int .i64 G ∧ Aside0 (impl_nearPlaces.l1 kq O s z (z.length : Int) s D (D.length : Int) G z X = some r) ∧ Aside0 (kq ≤ k1) ∧ Aside0 (Kd.S (Kd.slice 3 (Kd.int .i64)) 43 w' w.heap.size (fun _ => True) aR O) ∧ Aside0 (Kd.R k36 36 w' w.heap.size (fun k_ => k_ ≠ ac) (.slice cp D.length bM) D) ∧ Aside0 (w'.heap[ad]? = some (.cells #[(.slice (some af) z.length Z), (.slice aa X.length ab)] 34 (0, 0))) ∧ Aside0 (w'.heap[ac]? = some (.cells #[.int .i64 ((rd_T36 z s).f0), .int .i64 ((rd_T36 z s).f1)] 36 (0, 0))) ∧ Aside0 (Below w.heap.size w w'))
        case atStart => exact ⟨(ar), (0), eqs, H', ⟨Nat.le_refl _⟩, ⟨by (with_reducible repeat (first | apply Kd.S_alloc | apply Kd.S_drewN | apply Kd.S_drew)); exact J.out⟩, ⟨by (with_reducible repeat (first | apply Kd.R_alloc | apply Kd.R_drewN | apply Kd.R_drew)); exact Kd.R_mono bL.out (fun _ hk => hk.2)⟩, ⟨bf I.out⟩, ⟨bf M.out⟩, ⟨bs HB.out⟩⟩
        case round =>
         clear H'
         try clear c1
         try clear c2
         try clear bt
         try clear bu
         try clear p2
         try clear c3
         try clear bv
         try clear bw
         try clear p3
         try clear q3
         try clear cW
         try clear c5
         try clear c6
         try clear c9
         try clear bH
         try clear ai
         try clear b8
         try clear aj
         try clear b9
         try clear cX
         try clear cj ck
         try clear cm cn
         try clear bB bC
         try clear bE bF
         try clear cl
         try clear co
         try clear bD
         try clear bG
         try clear aT
         try clear aU
         try clear p2
         try clear av
         try clear aw
         obtain ⟨O, G, rfl, HA, ax, J, Y, I, M, HB⟩ := hrel
         cases gk with
         | zero => exact absurd HA.out (by simp [impl_nearPlaces.l1])
         | succ k2 =>
          have H := HA.out
          clear HA
          simp only [impl_nearPlaces.l1] at H
          by_cases ag : G < (D.length : Int)
          ·rw [if_pos ag] at H
           have cv : decide (G < (D.length : Int)) = true := decide_eq_true ag
           clear ag
           by_cases ay : 0 ≤ G
           ·rw [if_pos ay] at H
            have cY : decide (0 ≤ G) = true := decide_eq_true ay
            clear ay
            by_cases az : G < (D.length : Int)
            ·rw [if_pos az] at H
             have cZ : decide (G < (D.length : Int)) = true := decide_eq_true az
             clear az
             by_cases aA : 0 ≤ s
             ·rw [if_pos aA] at H
              have c7 : decide (0 ≤ s) = true := decide_eq_true aA
              clear aA
              by_cases aC : s < (O.length : Int)
              ·rw [if_pos aC] at H
               have c8 : decide (s < (O.length : Int)) = true := decide_eq_true aC
               clear aC
               replace H := Option.bind_eq_some_iff.mp H
               obtain ⟨aD, bN, H⟩ := H
               try dsimp -simprocs only at H
               have cy := am bN
               clear bN
               by_cases aE : (rd_L9 O s).length < 17592186044416
               ·rw [if_pos aE] at H
                have cz := am aE
                clear aE
                obtain ⟨ak, aZ⟩ : ∃ y_ : List Int, y_ = ((rd_L9 O s) ++ [aD]) := ⟨_, rfl⟩
                replace H : (impl_nearPlaces.l1 k2 (O.set (s : Int).toNat ak) s z (z.length : Int) s D (D.length : Int) (wrap64 (G + 1)) z X) = some r := by first | (rw [aZ]; exact H) | exact H
                have cA := am aZ
                clear aZ
                obtain ⟨bO, a2⟩ : ∃ y_ : List (List Int), y_ = (O.set (s : Int).toNat ak) := ⟨_, rfl⟩
                replace H : (impl_nearPlaces.l1 k2 bO s z (z.length : Int) s D (D.length : Int) (wrap64 (G + 1)) z X) = some r := by first | (rw [a2]; exact H) | exact H
                have cB := am a2
                clear a2
                have H' := am H
                clear H
                have a3 : 0 ≤ (G : Int) := oda
                have a4 : G < (D.length : Int) := oda
                obtain ⟨cC, cD, da, db⟩ := at_T36 (Kd.R_reads' Y.out).2.2 G a3 a4
                cases cD
                replace a3 := eq_true a3
                replace a4 := eq_true a4
                try go_wp2_with (first | ((with_reducible refine gd 7 rfl ?_); refine bx 7 (cs := #[.int .i64 0, .int .i64 0]) (t := 36) ?_; intro L hg ae hbox hb; replace J := am (Kd.S_below (by (with_reducible repeat (first | apply Kd.S_alloc | apply Kd.S_drewN | apply Kd.S_drew)); exact J.out) hb); replace Y := am (Kd.R_below (Kd.R_elderB (rl Y.out) L (Nat.le_of_eq hg.symm)) hb); have T := am hbox; have cE := gwb HB hg; replace HB := hs HB hb; have cF := nq I hg; have cG := nq' I hg; replace I := bb I hb rfl; have cH := nq M hg; have cI := nq' M hg; replace M := bb M hb rfl; clear hb hbox hg; have dc := cG.out; have dd := cF.out; have de := cI.out; have df := cH.out; obtain ⟨dg, dh⟩ := bc2 (w := ae) T.out; have di := blk_frozen T.out))
                have a5 : Aside0 (Kd.S (Kd.slice 3 (Kd.int .i64)) 43 ((ae.setCell ⟨L, 0, none⟩ (.int .i64 ((rd_T36 D G).f0))).setCell ⟨L, 1, none⟩ (.int .i64 ((rd_T36 D G).f1))) w.heap.size (fun _ => True) aR O) := ⟨by (with_reducible repeat (first | apply Kd.S_alloc | apply Kd.S_drewN | apply Kd.S_drew)); exact Kd.S_mono (Kd.S_far (p := ⟨L, 1, none⟩) (Kd.S_far (p := ⟨L, 0, none⟩) (Kd.S_types J.out T.out (by decide)) (fun _ hk => hk.2) (.int .i64 ((rd_T36 D G).f0))) (fun _ hk => hk.2) (.int .i64 ((rd_T36 D G).f1))) (fun _ hk => trivial)⟩
                have a6 : Aside0 (Kd.R k36 36 ((ae.setCell ⟨L, 0, none⟩ (.int .i64 ((rd_T36 D G).f0))).setCell ⟨L, 1, none⟩ (.int .i64 ((rd_T36 D G).f1))) w.heap.size (fun k_ => k_ ≠ ac ∧ k_ ≠ L) (.slice (some cC) D.length bM) D) := ⟨by (with_reducible repeat (first | apply Kd.R_alloc | apply Kd.R_drewN | apply Kd.R_drew)); exact Kd.R_mono (Kd.R_far (p := ⟨L, 1, none⟩) (Kd.R_far (p := ⟨L, 0, none⟩) (Kd.R_mono Y.out (fun k_ hk => (⟨hk, hk.2⟩ : _ ∧ k_ ≠ L))) (fun _ hk => hk.2) (.int .i64 ((rd_T36 D G).f0))) (fun _ hk => hk.2) (.int .i64 ((rd_T36 D G).f1))) (fun _ hk => ⟨hk.1.1, hk.1.2⟩)⟩
                have a7 : Aside0 (((ae.setCell ⟨L, 0, none⟩ (.int .i64 ((rd_T36 D G).f0))).setCell ⟨L, 1, none⟩ (.int .i64 ((rd_T36 D G).f1))).heap[ad]? = some (.cells #[.slice (some af) z.length Z, .slice aa X.length ab] 34 (0, 0))) := ⟨bf I.out⟩
                have a8 : Aside0 (((ae.setCell ⟨L, 0, none⟩ (.int .i64 ((rd_T36 D G).f0))).setCell ⟨L, 1, none⟩ (.int .i64 ((rd_T36 D G).f1))).heap[ac]? = some (.cells #[.int .i64 ((rd_T36 z s).f0), .int .i64 ((rd_T36 z s).f1)] 36 (0, 0))) := ⟨bf M.out⟩
                have a9 : Aside0 (((ae.setCell ⟨L, 0, none⟩ (.int .i64 ((rd_T36 D G).f0))).setCell ⟨L, 1, none⟩ (.int .i64 ((rd_T36 D G).f1))).heap[L]? = some (.cells #[.int .i64 ((rd_T36 D G).f0), .int .i64 ((rd_T36 D G).f1)] 36 (0, 0))) := ⟨by (with_reducible repeat (first | refine blk_drewN ?_ _ | refine blk_drew ?_ | refine blk_alloc ?_ _)); refine blk_put (cs := #[.int .i64 ((rd_T36 D G).f0), .int .i64 0]) ?_ 1 _ rfl; (with_reducible repeat (first | refine blk_drewN ?_ _ | refine blk_drew ?_ | refine blk_alloc ?_ _)); refine blk_put (cs := #[.int .i64 0, .int .i64 0]) ?_ 0 _ rfl; exact bf T.out⟩
                have ba : Aside0 (Below w.heap.size w ((ae.setCell ⟨L, 0, none⟩ (.int .i64 ((rd_T36 D G).f0))).setCell ⟨L, 1, none⟩ (.int .i64 ((rd_T36 D G).f1)))) := ⟨bs HB.out⟩
                (try clear J)
                (try clear Y)
                (try clear I)
                (try clear M)
                (try clear T)
                (try clear HB)
                generalize ((ae.setCell ⟨L, 0, none⟩ (.int .i64 ((rd_T36 D G).f0))).setCell ⟨L, 1, none⟩ (.int .i64 ((rd_T36 D G).f1))) = cJ at a5 a6 a7 a8 a9 ba ⊢
                have J := a5
                have Y := a6
                have I := a7
                have M := a8
                have T := a9
                have HB := ba
                clear a5 a6 a7 a8 a9 ba
                replace J := am (Kd.S_drew J.out)
                replace Y := rd_ Y
                replace I := bd I
                replace M := bd M
                replace T := bd T
                replace HB := hd HB
                obtain ⟨dj, dk, bP⟩ := Kd.S_slice J.out
                (first | subst bP | (injection bP with al bc an; have be := al.symm; have bg := an.symm; clear al bc an; subst be; subst bg))
                have aG : 0 ≤ (s : Int) := oda
                have aH : s < (O.length : Int) := oda
                obtain ⟨cK, aI, aJ, cL, ao, hl312_0, hi312_0⟩ := at_L9 (Kd.S_reads' J.out).2.2 s aG aH
                cases cL
                obtain ⟨dl, hce312, hMe312, bQ⟩ := Kd.S_get J.out [] s aG (by first | exact aH | exact oda | (have e_ := (Kd.S_reads' J.out).1; omega))
                obtain ⟨ve312_0, rfl, ge312_0⟩ := hMe312
                have hv312_0 := bQ 0 _ rfl
                rw [Nat.add_zero, show ((Kd.slice 3 (Kd.int .i64))).sz = 1 from rfl, Nat.mul_one] at hv312_0
                replace hv312_0 := Option.some.inj (hv312_0.symm.trans ao)
                rw [hv312_0] at ge312_0
                have HL312_0 := am (show Kd.R (Kd.int .i64) 3 _ _ _ _ (rd_L9 O s) from ge312_0)
                clear hv312_0 ge312_0
                have HX312_0 := am ao
                clear bQ hce312
                have aK := am hi312_0
                have dm := am hl312_0
                clear hi312_0 hl312_0
                replace aG := eq_true aG
                replace aH := eq_true aH
                refine sta 13 (fun w' => w'.cell? ⟨ad, 0, none⟩ = some (.slice (some af) z.length Z) ∧ w'.cell? ⟨ad, 1, none⟩ = some (.slice aa X.length ab) ∧ w'.cell? ⟨L, 0, none⟩ = some (.int .i64 ((rd_T36 D G).f0)) ∧ w'.cell? ⟨L, 1, none⟩ = some (.int .i64 ((rd_T36 D G).f1)) ∧ w'.cell? (cK.add (s).toNat) = some (.slice aI (rd_L9 O s).length aJ)) [12] ⟨cx I 0, cx I 1, cx T 0, cx T 1, ao⟩ (fun hHeld => ?_); refine with_tabW impl_nearPlaces.tab8 impl_nearPlaces.bits8 (fun HT_ HW_ => ?_)
                generalize cJ.drew = dp at J Y I M T HB HL312_0 aK HX312_0 ao hHeld ⊢
                refine pu 0 28 ?_
                refine pu 1 29 ?_
                refine pu 2 30 ?_
                refine pu 3 31 ?_
                refine pu 4 32 ?_
                refine tk 5 33 ?_
                refine tk 6 34 ?_
                refine tk 7 35 ?_
                refine on 8 36 (fun K hK => ?_)
                refine gs Try.func67 #[.agg #[.slice (some af) z.length Z, .slice aa X.length ab], .agg #[.int .i64 ((rd_T36 D G).f0), .int .i64 ((rd_T36 D G).f1)]] ?_
                with_reducible refine (impl_nodePlace.calls k2 _ _ z _ _ X ((rd_T36 D G).f0) ((rd_T36 D G).f1) aD _ ?aV ?aW ?aX ?aY cy.out).mono ?_
                (case aV => exact Kd.C_below aN.out (bs HB.out))
                (case aW => exact bn.out)
                (case aX => exact Kd.C_below bo.out (bs HB.out))
                (case aY => exact br.out)
                rintro e cM ⟨rfl, hb⟩
                have aM := cw hb hHeld.2.2.2.2
                refine ⟨_, rfl, ?_⟩
                replace J := am (Kd.S_below (by (with_reducible repeat (first | apply Kd.S_alloc | apply Kd.S_drewN | apply Kd.S_drew)); exact J.out) hb)
                replace Y := rb Y hb
                replace HL312_0 := am (Kd.R_below (by (with_reducible repeat (first | apply Kd.R_alloc | apply Kd.R_drewN | apply Kd.R_drew)); exact HL312_0.out) hb)
                replace I := bb I hb rfl
                replace M := bb M hb rfl
                replace T := bb T hb rfl
                replace aK := am (Kd.C_below (by repeat (first | (with_reducible exact aK.out) | (with_reducible refine Kd.C_alloc ?_ _) | (with_reducible refine Kd.C_drewN ?_ _) | (with_reducible refine Kd.C_drew ?_) | exact aK.out)) hb)
                replace HX312_0 := am (pw_cell_below hb HX312_0.out)
                replace HB := hs HB hb
                (try clear hb)
                (try clear hb2)
                (try clear hk)
                (try clear hi)
                obtain ⟨ap, dq, bR, bS, cN, dr, bT⟩ := Kd.S_form J.out (by have h_ : (s : Int) < ((O.length : Int) : Int) := oda; have dt : 0 ≤ (s : Int) := (oda); omega)
                (first | cases bR | (injection bR with ea_ en_ ec_; (first | subst ea_ | (injection ea_ with ea_; subst ea_)); subst ec_; clear en_))
                have cO := am bS
                have du := am bT
                clear bS cN bT
                (first | simp only [add_plain] at ao | skip)
                obtain ⟨oki35, dv, cP, cQ, bU, _, _, hH35⟩ := Kd.S_elem J.out [] (s : Int) (oda) (by have h_ : (s : Int) < ((O.length : Int) : Int) := oda; first | exact h_ | (have e_ := (Kd.S_reads' J.out).1; omega) | simpa using h_)
                obtain ⟨ve35_0, rfl, ge35_0⟩ := cQ
                have hv35 := bU 0 _ rfl
                have hX35 := HX312_0.out
                (try simp only [add_plain] at hX35)
                (try simp only [Nat.add_zero] at hv35)
                (try rw [show ((Kd.slice 3 (Kd.int .i64))).sz = 1 from rfl, Nat.mul_one] at hv35)
                replace hv35 := Option.some.inj (hv35.symm.trans hX35)
                subst hv35
                clear hX35 bU cP
                have UU35 := am (show Kd.R (Kd.int .i64) 3 _ w.heap.size oki35 (.slice aI (rd_L9 O s).length aJ) (rd_L9 O s) from ge35_0)
                have HH35 := am hH35
                have HN35 := am (Kd.S_reads' J.out).1
                clear hH35 ge35_0
                refine hK.out _ _ ⟨cx I 0, cx I 1, cx T 0, cx T 1, aM⟩ (fun hHeld => ?_)
                clear hK K
                refine nrm 36 ?_
                refine on 9 37 (fun K hK => ?_)
                refine va ?_
                refine hK.out _ _ ⟨cx I 0, cx I 1, cx T 0, cx T 1, ca hHeld.2.2.2.2⟩ (fun hHeld => ?_)
                clear hK K
                refine nrm 37 ?_
                refine on 10 38 (fun K hK => ?_)
                refine Kd.R_append_step (Kd.int .i64) (w0 := w) w.heap.size (by rfl) (.tmp 33) (.tmp 37) 43 3 (.int .i64 0) 8 rfl Try.underlying43 info3 rfl (by decide) (by omega) (.slice aI (rd_L9 O s).length aJ) (rd_L9 O s) aD [.int .i64 aD] (fun k_ => oki35 k_ ∨ ((fun _ => True)) k_ ∧ cM.heap.size ≤ k_) (fun _ => False) rfl rfl ?aP (fun _ hk => hk.elim) ?aF ?aO ?aB ?aS ?aL ?_
                (case aP => exact rfl)
                (case aB => exact (bs HB.out))
                (case aF => exact (fun k_ hk => .inr ⟨trivial, hk⟩))
                (case aO => exact (by (with_reducible repeat (first | apply Kd.R_alloc | apply Kd.R_drewN | apply Kd.R_drew)); exact Kd.R_mono UU35.out (fun _ hk => .inl hk)))
                (case aS => exact (below_size (bs HB.out)))
                (case aL => have := cz.out; omega)
                intro dw dx ho hb hg hat
                (first | have aM := Go.Proofs.YtohmemckdogljaaW.PrintWords.cell_grown hg (hHeld.2.2.2.2) (by first | (rw [add_block]; exact (fun e_ => ((HL312_0.out.1 _ e_.symm).2) rfl)) | (show some (Addr.add _ _).block ≠ _; rw [add_block]; exact (fun e_ => ((HL312_0.out.1 _ e_.symm).2) rfl)) | exact (fun e_ => ((HL312_0.out.1 _ e_.symm).2) rfl)) | have aM := Go.Proofs.YtohmemckdogljaaW.PrintWords.cell_grown hg (cell_unalloc (hHeld.2.2.2.2) (by first | (rw [add_block]; exact Kd.S_lt J.out _ rfl) | (show (Addr.add _ _).block < _; rw [add_block]; exact Kd.S_lt J.out _ rfl) | exact Kd.S_lt J.out _ rfl)) (by first | (rw [add_block]; exact (fun e_ => ((HL312_0.out.1 _ e_.symm).2) rfl)) | (show some (Addr.add _ _).block ≠ _; rw [add_block]; exact (fun e_ => ((HL312_0.out.1 _ e_.symm).2) rfl)) | exact (fun e_ => ((HL312_0.out.1 _ e_.symm).2) rfl)))
                rw [← cA.out] at ho
                replace Y := am (Kd.R_over' (v := (.slice aI (rd_L9 O s).length aJ)) (rl Y.out) (Kd.R_typed HL312_0.out) (by decide) hg)
                replace I := am (blk_grown (g := ad) (o := .cells #[.slice (some af) z.length Z, .slice aa X.length ab] 34 (0, 0)) (bf I.out) hg (Kd.R_ne HL312_0.out I.out (by decide)))
                replace M := am (blk_grown (g := ac) (o := .cells #[.int .i64 ((rd_T36 z s).f0), .int .i64 ((rd_T36 z s).f1)] 36 (0, 0)) (bf M.out) hg (Kd.R_ne HL312_0.out M.out (by decide)))
                replace T := am (blk_grown (g := L) (o := .cells #[.int .i64 ((rd_T36 D G).f0), .int .i64 ((rd_T36 D G).f1)] 36 (0, 0)) (bf T.out) hg (Kd.R_ne HL312_0.out T.out (by decide)))
                replace HB := am hb
                replace HH35 := am (Kd.H_grown (Kd.H_widen (by repeat (first | exact HH35.out | refine Kd.H_alloc ?_ _ | refine Kd.H_drewN ?_ _ | refine Kd.H_drew ?_))) hg (fun k_ e_ => .inl (UU35.out.1 k_ e_)))
                have bV := am ho
                clear J UU35 HL312_0
                clear ho hb hg hat
                have bW : 0 ≤ (s : Int) := oda
                have bX : (s : Int) < ((O.length : Int) : Int) := oda
                replace bW := eq_true bW
                replace bX := eq_true bX
                obtain ⟨bY, bZ, b0⟩ := Kd.R_slice bV.out
                (first | subst b0 | (injection b0 with al bc an; have be := al.symm; have bg := an.symm; clear al bc an; subst be; subst bg))
                obtain ⟨_, _, hraw37, _, _, b1, _⟩ := Kd.H_raw HH35.out (oda) (by have h_ : (s : Int) < ((O.length : Int) : Int) := oda; first | exact h_ | (have e_ := (HN35.out); omega) | simpa using h_)
                obtain ⟨_, b2⟩ := Kd.H_at HH35.out (oda) (by have h_ : (s : Int) < ((O.length : Int) : Int) := oda; first | exact h_ | (have e_ := (HN35.out); omega) | simpa using h_)
                have b3 := b1 0 _ rfl
                have b4 := b2 0
                (try simp only [Nat.add_zero] at b3 b4)
                (try rw [show ((Kd.slice 3 (Kd.int .i64))).sz = 1 from rfl, Nat.mul_one] at b3)
                (try rw [show ((Kd.slice 3 (Kd.int .i64))).sz = 1 from rfl, Nat.mul_one] at b4)
                have bh := Kd.S_seg0 HH35.out (oda) (by have h_ : (s : Int) < ((O.length : Int) : Int) := oda; first | exact h_ | (have e_ := (HN35.out); omega) | simpa using h_) (seg := [.slice bY ak.length bZ]) (j := 0) (show 1 ≤ 1 from by decide) (x' := ak) (Kd.M_row bV.out) (fun _ hk => hk)
                (try simp only [show ((Kd.slice 3 (Kd.int .i64))).sz = 1 from rfl, Nat.mul_one, Nat.add_zero] at bh)
                clear b1 b2
                have HNB301_go35 := Nq.mk (show ad ≠ ap from by have h_ := Kd.R_ne hraw37 I.out (by decide); intro e_; exact h_ (by rw [e_]; rfl))
                have HNB306_go35 := Nq.mk (show ac ≠ ap from by have h_ := Kd.R_ne hraw37 M.out (by decide); intro e_; exact h_ (by rw [e_]; rfl))
                have HNB311_go35 := Nq.mk (show L ≠ ap from by have h_ := Kd.R_ne hraw37 T.out (by decide); intro e_; exact h_ (by rw [e_]; rfl))
                have HS37 := bh.1
                rw [← cB.out] at HS37
                have cR := am HS37
                obtain ⟨_, hgg37⟩ := Kd.R_typed hraw37 ap rfl
                have GG37_ := am hgg37
                clear bh HS37 hgg37
                refine hK.out _ _ ⟨cx I 0, cx I 1, cx T 0, cx T 1, aM⟩ (fun hHeld => ?_)
                clear hK K
                refine nrm 38 ?_
                refine pu 11 39 ?_
                refine la0 12 (fun K hK => ?_)
                refine sk ?_
                refine hK.out _ _ ?_
                clear hK K
                refine dn ?_
                try go_wp2
                go_roundg k2
                case measure => have := au.out; have := ax.out; omega
                case rel => exact ⟨(bO), (wrap64 (G + 1)), eqs, H', ⟨by have := au.out; have := ax.out; omega⟩, ⟨by (with_reducible repeat (first | apply Kd.S_alloc | apply Kd.S_drewN | apply Kd.S_drew)); exact cR.out⟩, ⟨by (with_reducible repeat (first | apply Kd.R_alloc | apply Kd.R_drewN | apply Kd.R_drew)); exact Kd.R_mono (Kd.R_far (p := ⟨ap, (s : Int).toNat, none⟩) (Kd.R_types Y.out GG37_.out (by decide)) (fun _ hk => hk.2) (.slice bY ak.length bZ)) (fun _ hk => hk.1.1)⟩, ⟨bf I.out⟩, ⟨bf M.out⟩, ⟨by repeat (first | (with_reducible first | exact HB.out | apply below_alloc | apply pw_below_drewN | apply below_drew1 | refine below_set ?_ cO.out | refine below_set ?_ b5.out | refine below_set ?_ cg.out | refine below_set ?_ cE.out) | exact HB.out)⟩⟩
               ·rw [if_neg aE] at H
                exact absurd H (by simp)
              ·rw [if_neg aC] at H
               exact absurd H (by simp)
             ·rw [if_neg aA] at H
              exact absurd H (by simp)
            ·rw [if_neg az] at H
             exact absurd H (by simp)
           ·rw [if_neg ay] at H
            exact absurd H (by simp)
          ·rw [if_neg ag] at H
           have cv : decide (G < (D.length : Int)) = false := decide_eq_false ag
           clear ag
           have H' := am H
           clear H
           go_wp2
           go_roundg k2
           case measure => have := au.out; have := ax.out; omega
           case rel => exact ⟨(O), (wrap64 (s + 1)), eqs, H', ⟨by have := au.out; have := ax.out; omega⟩, ⟨by (with_reducible repeat (first | apply Kd.S_alloc | apply Kd.S_drewN | apply Kd.S_drew)); exact J.out⟩, ⟨bf I.out⟩, ⟨bs HB.out⟩⟩
       ·rw [if_neg aj] at H
        exact absurd H (by simp)
      ·rw [if_neg ai] at H
       exact absurd H (by simp)
     ·rw [if_neg c9] at H
      have bH : decide (s < (z.length : Int)) = false := decide_eq_false c9
      clear c9
      obtain rfl := Option.some.inj H
      go_wp2
      go_ret
      exact ⟨_, eqr, by (with_reducible repeat (first | apply Kd.S_alloc | apply Kd.S_drewN | apply Kd.S_drew)); exact J.out, bs HB.out⟩
  ·rw [if_neg c3] at H
   exact absurd H (by simp)
 ·rw [if_neg c2] at H
  exact absurd H (by simp)

/-! ### slices_Index_int_int: function 139 -/
def slices_Index_int_int.l0 : Nat → List Int → Int → Int → Int → Option (Int)
 | 0, _, _, _, _ => none
 | k + 1, y, z, D, s => if s < D then (if 0 ≤ s then (if s < (y.length : Int) then (if z = (rd y s) then (some s) else (slices_Index_int_int.l0 k y z D (wrap64 (s + 1)))) else (none)) else (none)) else (some (-1))
def slices_Index_int_int.f (k : Nat) (l0 : List Int) (s : Int) : Option (Int) := slices_Index_int_int.l0 k l0 s (l0.length : Int) 0
theorem slices_Index_int_int.calls (k : Nat) (T : Option Addr) (X : Nat) (l0 : List Int) (y : Int) (r : Int) (w : World) (Y : Kd.C (Kd.int .i64) w T l0.length l0) (Z : l0.length ≤ X) (h : slices_Index_int_int.f k l0 y = some r) :
  Calls Try.prog 139 #[.slice T l0.length X, .int .i64 y] w fun e w' => e = .returned (.int .i64 r) ∧ Drawn0 w w' := by
 have aa := am Y
 have ah := am Z
 clear Y Z
 have H := h; unfold slices_Index_int_int.f at H
 clear h
 have H' := am H
 clear H
 go_enter Try.func139, Try.ntmps139
 go_wp2
 go_loopg [8] k (fun kq v8 w' => ∃ (s : Int), v8 = .int .i64 s ∧ Aside0 (slices_Index_int_int.l0 kq l0 y (l0.length : Int) s = some r) ∧ Aside0 (kq ≤ k) ∧ Drawn0 w w')
 case atStart => exact ⟨(0), eqs, H', ⟨Nat.le_refl _⟩, drs⟩
 case round =>
  clear H'
  try clear c1
  try clear p2
  obtain ⟨s, rfl, HA, ab, ⟨m1, rfl⟩⟩ := hrel
  cases gk with
  | zero => exact absurd HA.out (by simp [slices_Index_int_int.l0])
  | succ k1 =>
   have H := HA.out
   clear HA
   simp only [slices_Index_int_int.l0] at H
   by_cases I : s < (l0.length : Int)
   ·rw [if_pos I] at H
    have ac : decide (s < (l0.length : Int)) = true := decide_eq_true I
    clear I
    by_cases J : 0 ≤ s
    ·rw [if_pos J] at H
     have ai : decide (0 ≤ s) = true := decide_eq_true J
     clear J
     by_cases L : s < (l0.length : Int)
     ·rw [if_pos L] at H
      have aj : decide (s < (l0.length : Int)) = true := decide_eq_true L
      clear L
      by_cases z : y = (rd l0 s)
      ·rw [if_pos z] at H
       have ad : (y == (rd l0 s)) = true := beq_iff_eq.mpr z
       have ae : (y != (rd l0 s)) = false := bne_eq_false_iff_eq.mpr z
       clear z
       obtain rfl := Option.some.inj H
       have D : 0 ≤ (s : Int) := oda
       have G : s < (l0.length : Int) := oda
       obtain ⟨af, O, ag⟩ := Kd.at_int aa.out s D G
       cases O
       replace D := eq_true D
       replace G := eq_true G
       go_wp2
       go_ret
       exact ⟨eqs, drs⟩
      ·rw [if_neg z] at H
       have ad : (y == (rd l0 s)) = false := beq_eq_false_iff_ne.mpr z
       have ae : (y != (rd l0 s)) = true := bne_iff_ne.mpr z
       have H' := am H
       clear H
       have D : 0 ≤ (s : Int) := oda
       have G : s < (l0.length : Int) := oda
       obtain ⟨af, O, ag⟩ := Kd.at_int aa.out s D G
       cases O
       replace D := eq_true D
       replace G := eq_true G
       go_wp2
       go_roundg k1
       case measure => have := ab.out; omega
       case rel => exact ⟨(wrap64 (s + 1)), eqs, H', ⟨by have := ab.out; omega⟩, drs⟩
     ·rw [if_neg L] at H
      exact absurd H (by simp)
    ·rw [if_neg J] at H
     exact absurd H (by simp)
   ·rw [if_neg I] at H
    have ac : decide (s < (l0.length : Int)) = false := decide_eq_false I
    clear I
    obtain rfl := Option.some.inj H
    go_wp2
    go_ret
    exact ⟨eqs, drs⟩

/-! ### slices_Contains_int_int: function 108 -/
def slices_Contains_int_int.f (k : Nat) (l0 : List Int) (s : Int) : Option (Bool) := (slices_Index_int_int.f k l0 s).bind fun y => (some (decide (y ≥ 0)))
theorem slices_Contains_int_int.calls (k : Nat) (y : Option Addr) (z : Nat) (l0 : List Int) (s : Int) (r : Bool) (w : World) (D : Kd.C (Kd.int .i64) w y l0.length l0) (I : l0.length ≤ z) (h : slices_Contains_int_int.f k l0 s = some r) :
  Calls Try.prog 108 #[.slice y l0.length z, .int .i64 s] w fun e w' => e = .returned (.bool r) ∧ Drawn0 w w' := by
 have L := am D
 have M := am I
 clear D I
 have H := h; unfold slices_Contains_int_int.f at H
 clear h
 replace H := Option.bind_eq_some_iff.mp H
 obtain ⟨O, J, H⟩ := H
 try dsimp -simprocs only at H
 have T := am J
 clear J
 obtain rfl := Option.some.inj H
 go_enter Try.func108, Try.ntmps108
 go_wp2_with (first | ((with_reducible refine gc 139 rfl ?_); refine gl 7 Try.func139 #[.slice y l0.length z, .int .i64 s] ?_; (with_reducible refine (slices_Index_int_int.calls k _ _ l0 s O _ ?X ?Y T.out).mono ?_); (case X => repeat (first | exact L.out | (with_reducible refine Kd.C_alloc ?_ _) | (with_reducible refine Kd.C_drewN ?_ _) | (with_reducible refine Kd.C_drew ?_))); (case Y => exact M.out); rintro e w' ⟨rfl, ⟨nd, rfl⟩⟩; refine ⟨_, rfl, ?_⟩))
 go_ret
 exact ⟨eqs, drs⟩

end Go.Proofs.Ytohmemckdogljaa.QFnExactWalkThrees
