/- Contracts of the Go functions that this law reaches: each does what its plain Lean function says. No condition. -/
import Derived.Test.YtohmemckdogljaaQFnExactWalkDistx0
import Derived.Test.YtohmemckdogljaaQFnExactWalkDistx10
import Derived.Test.YtohmemckdogljaaQFnExactWalkDistx11
namespace Go.Proofs.Ytohmemckdogljaa.QFnExactWalkDist
open Go.RowKit Go.Proofs.YtohmemckdogljaaW.PrintWords Go.Proofs.YtohmemckdogljaaW.PrintLast Go.Proofs.YtohmemckdogljaaW.PrintMore Go.Proofs.Ytohmemckdogljaa.Bl
attribute [local go_sem] max2_int min2_int max_two min_two max_three min_three max_four min_four   -- for this text's walks alone
set_option linter.unusedVariables false
set_option linter.unusedSimpArgs false
set_option maxHeartbeats 8000000
set_option maxRecDepth 100000

/-! ### impl_nearPlaces: function 68 -/
mutual
def impl_nearPlaces.l0 : Nat → List (List Int) → List (S36) → Int → Int → List (S36) → List (S56) → Option ((List (List Int)))
 | 0, _, _, _, _, _, _ => none
 | k + 1, z, y, D, s, G, I => if s < D then (if 0 ≤ s then (if s < (y.length : Int) then ((impl_GraphNear.f k G I ((rd_T36 y s).f0) ((rd_T36 y s).f1)).bind fun J => (impl_nearPlaces.l1 k z s y D s J (J.length : Int) 0 G I)) else (none)) else (none)) else (some z)
def impl_nearPlaces.l1 : Nat → List (List Int) → Int → List (S36) → Int → Int → List (S36) → Int → Int → List (S36) → List (S56) → Option ((List (List Int)))
 | 0, _, _, _, _, _, _, _, _, _, _ => none
 | k + 1, z, s, J, L, M, D, O, y, G, I => if y < O then (if 0 ≤ y then (if y < (D.length : Int) then (if 0 ≤ s then (if s < (z.length : Int) then ((impl_nodePlace.f k G I ((rd_T36 D y).f0) ((rd_T36 D y).f1)).bind fun T => (if (rd_L9 z s).length < 17592186044416 then (impl_nearPlaces.l1 k (z.set (s : Int).toNat ((rd_L9 z s) ++ [T])) s J L M D O (wrap64 (y + 1)) G I) else (none))) else (none)) else (none)) else (none)) else (none)) else (impl_nearPlaces.l0 k z J L (wrap64 (M + 1)) G I)
end
def impl_nearPlaces.f (k : Nat) (s : List (S36)) (y : List (S56)) : Option ((List (List Int))) := if 0 ≤ (s.length : Int) then (if ((s.length : Int) : Int).toNat ≤ 11728124029610 then (impl_nearPlaces.l0 k (List.replicate ((s.length : Int) : Int).toNat []) s (s.length : Int) 0 s y) else (none)) else (none)
def impl_nearPlaces.T8 : Bool × List (List Nat × List Nat) := (true, [([], []), ([], []), ([], []), ([], []), ([2, 3], [2, 3]), ([4], [4]), ([], []), ([], []), ([6, 7], [6, 7]), ([8], [8]), ([5, 9, 8], [5, 9]), ([0, 1, 0, 1, 2, 3, 4, 5, 6, 7, 8, 9, 10], [0, 1]), ([11, 10, 10, 0, 1, 2, 3, 4, 5, 6, 7, 8, 9, 10], [10, 11])])
def impl_nearPlaces.B8 : List Nat := [0, 0, 0, 0, 12, 28, 0, 0, 192, 448, 1020, 2047, 4095]
theorem impl_nearPlaces.tab8 : rtab .any (opsOf Try.f68 8) = impl_nearPlaces.T8 := by kernel_rfl
theorem impl_nearPlaces.bits8 : waitsOk impl_nearPlaces.T8.2 impl_nearPlaces.B8 = true := by kernel_rfl
theorem impl_nearPlaces.calls (k : Nat) (aq : Option Addr) (Z : Nat) (z : List (S36)) (aa : Option Addr) (ab : Nat) (X : List (S56)) (r : List (List Int)) (w : World) (bi : Kd.C k36 w aq z.length z) (bj : z.length ≤ Z) (bk : Kd.C k56 w aa X.length X) (bl : X.length ≤ ab) (h : impl_nearPlaces.f k z X = some r) :
  Calls Try.prog 68 #[.agg #[.slice aq z.length Z, .slice aa X.length ab]] w fun e w' => ∃ bm : Value, e = .returned (bm) ∧ Kd.S (Kd.slice 3 (Kd.int .i64)) 43 w' w.heap.size (fun _ => True) bm r ∧ Below w.heap.size w w' := by
 have hu34 := Try.underlying34
 have hu36 := Try.underlying36
 have aN := am bi
 have bn := am bj
 clear bi bj
 have bo := am bk
 have br := am bl
 clear bk bl
 have HB := am (Below.refl w.heap.size w)
 have H := h; unfold impl_nearPlaces.f at H
 clear h
 by_cases c2 : 0 ≤ (z.length : Int)
 ·rw [if_pos c2] at H
  have bt := eq_true c2
  have bu : decide (0 ≤ (z.length : Int)) = true := decide_eq_true c2
  clear c2
  by_cases c3 : ((z.length : Int) : Int).toNat ≤ 11728124029610
  ·rw [if_pos c3] at H
   have bv := eq_true c3
   have bw : decide (((z.length : Int) : Int).toNat ≤ 11728124029610) = true := decide_eq_true c3
   clear c3
   obtain ⟨bz, aQ⟩ : ∃ y_ : List (List Int), y_ = (List.replicate ((z.length : Int) : Int).toNat []) := ⟨_, rfl⟩
   replace H : (impl_nearPlaces.l0 k bz z (z.length : Int) 0 z X) = some r := by first | (rw [aQ]; exact H) | exact H
   have bA := am aQ
   clear aQ
   have H' := am H
   clear H
   go_enter Try.func68, Try.ntmps68
   go_wp2_with (first | ((with_reducible refine gd 1 rfl ?_); refine bx 1 (cs := #[.slice aq z.length Z, .slice aa X.length ab]) (t := 34) ?_; intro ad hg w4 hbox hb; have I := am hbox; have b5 := gwb HB hg; replace HB := hs HB hb; clear hb hbox hg; obtain ⟨bB, bC⟩ := bc2 (w := w4) I.out; have bD := blk_frozen I.out) | ((with_reducible refine gd 11 rfl ?_); refine Kd.S_make (Kd.slice 3 (Kd.int .i64)) _ 43 rfl (N := 11) rfl 84 _ _ rfl (z.length : Int) rfl rfl Try.underlying84 (.slice none 0 0) 24 info43 rfl (by decide) (by omega) [] (ok := fun _ => True) (okp := fun _ => True) ⟨_, rfl, Kd.R_nil _ _ _ _ _⟩ (fun _ hk => hk) trivial (oda) (Nat.le_trans (Nat.mul_le_mul_right _ (oda : (z.length : Int).toNat ≤ 11728124029610)) (by omega)) (Below.refl _ _) (Nat.le_refl _) ?_; intro aR w6 ah hb hg_ hnew_; clear hg_ hnew_; (first | rw [← bA.out] at ah | (simp only [Int.reduceToNat] at ah; rw [← bA.out] at ah)); have b6 := am (Kd.S_lower ah (below_size (bs HB.out))); replace I := bb I hb rfl; replace HB := hs HB hb; clear hb ah; obtain ⟨bE, bF⟩ := bc2 (w := w6) I.out; have bG := blk_frozen I.out))
   go_loopg [15] k (fun kq b7 w' => ∃ (ar : List (List Int)) (s : Int), b7 = .int .i64 s ∧ Aside0 (impl_nearPlaces.l0 kq ar z (z.length : Int) s z X = some r) ∧ Aside0 (kq ≤ k) ∧ Aside0 (Kd.S (Kd.slice 3 (Kd.int .i64)) 43 w' w.heap.size (fun _ => True) aR ar) ∧ Aside0 (w'.heap[ad]? = some (.cells #[(.slice aq z.length Z), (.slice aa X.length ab)] 34 (0, 0))) ∧ Aside0 (Below w.heap.size w w'))
   case atStart => exact ⟨(bz), (0), eqs, H', ⟨Nat.le_refl _⟩, ⟨by (with_reducible repeat (first | apply Kd.S_alloc | apply Kd.S_drewN | apply Kd.S_drew)); exact b6.out⟩, ⟨bf I.out⟩, ⟨bs HB.out⟩⟩
   case round =>
    clear H'
    try clear c2
    try clear bt
    try clear bu
    try clear p2
    try clear c3
    try clear bv
    try clear bw
    try clear c6
    try clear bB bC
    try clear bE bF
    try clear bD
    try clear bG
    obtain ⟨ar, s, rfl, HA, au, J, I, HB⟩ := hrel
    cases gk with
    | zero => exact absurd HA.out (by simp [impl_nearPlaces.l0])
    | succ k1 =>
     have H := HA.out
     clear HA
     simp only [impl_nearPlaces.l0] at H
     by_cases c9 : s < (z.length : Int)
     ·rw [if_pos c9] at H
      have bH : decide (s < (z.length : Int)) = true := decide_eq_true c9
      clear c9
      by_cases ai : 0 ≤ s
      ·rw [if_pos ai] at H
       have b8 : decide (0 ≤ s) = true := decide_eq_true ai
       clear ai
       by_cases aj : s < (z.length : Int)
       ·rw [if_pos aj] at H
        have b9 : decide (s < (z.length : Int)) = true := decide_eq_true aj
        clear aj
        replace H := Option.bind_eq_some_iff.mp H
        obtain ⟨D, bI, H⟩ := H
        try dsimp -simprocs only at H
        have ce := am bI
        clear bI
        have H' := am H
        clear H
        have av : 0 ≤ (s : Int) := oda
        have aw : s < (z.length : Int) := oda
        obtain ⟨af, cf, aT, aU⟩ := at_T36 aN.out s av aw
        cases cf
        replace aT := cb HB aT
        replace aU := cb HB aU
        replace av := eq_true av
        replace aw := eq_true aw
        go_wp2_with (first | ((with_reducible refine gd 5 rfl ?_); refine bx 5 (cs := #[.int .i64 0, .int .i64 0]) (t := 36) ?_; intro ac hg bJ hbox hb; replace J := am (Kd.S_below (by (with_reducible repeat (first | apply Kd.S_alloc | apply Kd.S_drewN | apply Kd.S_drew)); exact J.out) hb); have M := am hbox; have cg := gwb HB hg; replace HB := hs HB hb; have ch := nq I hg; have ci := nq' I hg; replace I := bb I hb rfl; clear hb hbox hg; have cS := ci.out; have cT := ch.out; obtain ⟨cj, ck⟩ := bc2 (w := bJ) M.out; have cl := blk_frozen M.out; obtain ⟨cm, cn⟩ := bc2 (w := bJ) I.out; have co := blk_frozen I.out) | ((with_reducible refine gc 55 rfl ?_); refine gl 22 Try.func55 #[.agg #[.slice (some af) z.length Z, .slice aa X.length ab], .agg #[.int .i64 ((rd_T36 z s).f0), .int .i64 ((rd_T36 z s).f1)]] ?_; (with_reducible refine (impl_GraphNear.calls k1 _ _ z _ _ X ((rd_T36 z s).f0) ((rd_T36 z s).f1) D _ ?aV ?aW ?aX ?aY ce.out).mono ?_); (case aV => exact Kd.C_below aN.out (bs HB.out)); (case aW => exact bn.out); (case aX => exact Kd.C_below bo.out (bs HB.out)); (case aY => exact br.out); rintro e cU ⟨cV, rfl, bK, hb⟩; refine ⟨_, rfl, ?_⟩; replace J := am (Kd.S_below (by (with_reducible repeat (first | apply Kd.S_alloc | apply Kd.S_drewN | apply Kd.S_drew)); exact (Kd.S_mono (Kd.S_far (p := ⟨ac, 1, none⟩) (Kd.S_far (p := ⟨ac, 0, none⟩) (Kd.S_types J.out M.out (by decide)) (fun _ hk => hk.2) (.int .i64 ((rd_T36 z s).f0))) (fun _ hk => hk.2) (.int .i64 ((rd_T36 z s).f1))) (fun _ h_ => h_.1))) hb); have bL := am (Kd.R_lower (Kd.R_newB bK (g := ac) (o := .cells #[.int .i64 ((rd_T36 z s).f0), .int .i64 ((rd_T36 z s).f1)] 36 (0, 0)) (bp M.out rfl)) (below_size (bs HB.out))); replace I := am (blk_below (g := ad) (o := .cells #[.slice (some af) z.length Z, .slice aa X.length ab] 34 (0, 0)) (bf I.out) hb); replace M := bq #[.int .i64 ((rd_T36 z s).f0), .int .i64 ((rd_T36 z s).f1)] M hb; replace HB := hs HB hb; (try clear hb); (try clear hb2); (try clear hk); (try clear hi); (try clear bK); obtain ⟨cp, bM, ct⟩ := Kd.R_slice bL.out; subst ct))
        go_loopg [24] k1 (fun kq cu w' => ∃ (O : List (List Int)) (G : Int), cu = .int .i64 G ∧ Aside0 (impl_nearPlaces.l1 kq O s z (z.length : Int) s D (D.length : Int) G z X = some r) ∧ Aside0 (kq ≤ k1) ∧ Aside0 (Kd.S (Kd.slice 3 (Kd.int .i64)) 43 w' w.heap.size (fun _ => True) aR O) ∧ Aside0 (Kd.R k36 36 w' w.heap.size (fun k_ => k_ ≠ ac) (.slice cp D.length bM) D) ∧ Aside0 (w'.heap[ad]? = some (.cells #[(.slice (some af) z.length Z), (.slice aa X.length ab)] 34 (0, 0))) ∧ Aside0 (w'.heap[ac]? = some (.cells #[.int .i64 ((rd_T36 z s).f0), .int .i64 ((rd_T36 z s).f1)] 36 (0, 0))) ∧ Aside0 (Below w.heap.size w w'))
        case atStart => exact ⟨(ar), (0), eqs, H', ⟨Nat.le_refl _⟩, ⟨by (with_reducible repeat (first | apply Kd.S_alloc | apply Kd.S_drewN | apply Kd.S_drew)); exact J.out⟩, ⟨by (with_reducible repeat (first | apply Kd.R_alloc | apply Kd.R_drewN | apply Kd.R_drew)); exact Kd.R_mono bL.out (fun _ hk => hk.2)⟩, ⟨bf I.out⟩, ⟨bf M.out⟩, ⟨bs HB.out⟩⟩
        case round =>
         clear H'
         try clear c1
         try clear c2
         try clear bt
         try clear bu
         try clear p2
         try clear c3
         try clear bv
         try clear bw
         try clear p3
         try clear q3
         try clear cW
         try clear c5
         try clear c6
         try clear c9
         try clear bH
         try clear ai
         try clear b8
         try clear aj
         try clear b9
         try clear cX
         try clear cj ck
         try clear cm cn
         try clear bB bC
         try clear bE bF
         try clear cl
         try clear co
         try clear bD
         try clear bG
         try clear aT
         try clear aU
         try clear p2
         try clear av
         try clear aw
         obtain ⟨O, G, rfl, HA, ax, J, Y, I, M, HB⟩ := hrel
         cases gk with
         | zero => exact absurd HA.out (by simp [impl_nearPlaces.l1])
         | succ k2 =>
          have H := HA.out
          clear HA
          simp only [impl_nearPlaces.l1] at H
          by_cases ag : G < (D.length : Int)
          ·rw [if_pos ag] at H
           have cv : decide (G < (D.length : Int)) = true := decide_eq_true ag
           clear ag
           by_cases ay : 0 ≤ G
           ·rw [if_pos ay] at H
            have cY : decide (0 ≤ G) = true := decide_eq_true ay
            clear ay
            by_cases az : G < (D.length : Int)
            ·rw [if_pos az] at H
             have cZ : decide (G < (D.length : Int)) = true := decide_eq_true az
             clear az
             by_cases aA : 0 ≤ s
             ·rw [if_pos aA] at H
              have c7 : decide (0 ≤ s) = true := decide_eq_true aA
              clear aA
              by_cases aC : s < (O.length : Int)
              ·rw [if_pos aC] at H
               have da : decide (s < (O.length : Int)) = true := decide_eq_true aC
               clear aC
               replace H := Option.bind_eq_some_iff.mp H
               obtain ⟨aD, bN, H⟩ := H
               try dsimp -simprocs only at H
               have cy := am bN
               clear bN
               by_cases aE : (rd_L9 O s).length < 17592186044416
               ·rw [if_pos aE] at H
                have cz := am aE
                clear aE
                obtain ⟨ak, aZ⟩ : ∃ y_ : List Int, y_ = ((rd_L9 O s) ++ [aD]) := ⟨_, rfl⟩
                replace H : (impl_nearPlaces.l1 k2 (O.set (s : Int).toNat ak) s z (z.length : Int) s D (D.length : Int) (wrap64 (G + 1)) z X) = some r := by first | (rw [aZ]; exact H) | exact H
                have cA := am aZ
                clear aZ
                obtain ⟨bO, a2⟩ : ∃ y_ : List (List Int), y_ = (O.set (s : Int).toNat ak) := ⟨_, rfl⟩
                replace H : (impl_nearPlaces.l1 k2 bO s z (z.length : Int) s D (D.length : Int) (wrap64 (G + 1)) z X) = some r := by first | (rw [a2]; exact H) | exact H
                have cB := am a2
                clear a2
                have H' := am H
                clear H
                have a3 : 0 ≤ (G : Int) := oda
                have a4 : G < (D.length : Int) := oda
                obtain ⟨cC, cD, db, dc⟩ := at_T36 (Kd.R_reads' Y.out).2.2 G a3 a4
                cases cD
                replace a3 := eq_true a3
                replace a4 := eq_true a4
                try go_wp2_with (first | ((with_reducible refine gd 7 rfl ?_); refine bx 7 (cs := #[.int .i64 0, .int .i64 0]) (t := 36) ?_; intro L hg ae hbox hb; replace J := am (Kd.S_below (by (with_reducible repeat (first | apply Kd.S_alloc | apply Kd.S_drewN | apply Kd.S_drew)); exact J.out) hb); replace Y := am (Kd.R_below (Kd.R_elderB (rl Y.out) L (Nat.le_of_eq hg.symm)) hb); have T := am hbox; have cE := gwb HB hg; replace HB := hs HB hb; have cF := nq I hg; have cG := nq' I hg; replace I := bb I hb rfl; have cH := nq M hg; have cI := nq' M hg; replace M := bb M hb rfl; clear hb hbox hg; have dd := cG.out; have de := cF.out; have df := cI.out; have dg := cH.out; obtain ⟨dh, di⟩ := bc2 (w := ae) T.out; have dj := blk_frozen T.out))
                have a5 : Aside0 (Kd.S (Kd.slice 3 (Kd.int .i64)) 43 ((ae.setCell ⟨L, 0, none⟩ (.int .i64 ((rd_T36 D G).f0))).setCell ⟨L, 1, none⟩ (.int .i64 ((rd_T36 D G).f1))) w.heap.size (fun _ => True) aR O) := ⟨by (with_reducible repeat (first | apply Kd.S_alloc | apply Kd.S_drewN | apply Kd.S_drew)); exact Kd.S_mono (Kd.S_far (p := ⟨L, 1, none⟩) (Kd.S_far (p := ⟨L, 0, none⟩) (Kd.S_types J.out T.out (by decide)) (fun _ hk => hk.2) (.int .i64 ((rd_T36 D G).f0))) (fun _ hk => hk.2) (.int .i64 ((rd_T36 D G).f1))) (fun _ hk => trivial)⟩
                have a6 : Aside0 (Kd.R k36 36 ((ae.setCell ⟨L, 0, none⟩ (.int .i64 ((rd_T36 D G).f0))).setCell ⟨L, 1, none⟩ (.int .i64 ((rd_T36 D G).f1))) w.heap.size (fun k_ => k_ ≠ ac ∧ k_ ≠ L) (.slice (some cC) D.length bM) D) := ⟨by (with_reducible repeat (first | apply Kd.R_alloc | apply Kd.R_drewN | apply Kd.R_drew)); exact Kd.R_mono (Kd.R_far (p := ⟨L, 1, none⟩) (Kd.R_far (p := ⟨L, 0, none⟩) (Kd.R_mono Y.out (fun k_ hk => (⟨hk, hk.2⟩ : _ ∧ k_ ≠ L))) (fun _ hk => hk.2) (.int .i64 ((rd_T36 D G).f0))) (fun _ hk => hk.2) (.int .i64 ((rd_T36 D G).f1))) (fun _ hk => ⟨hk.1.1, hk.1.2⟩)⟩
                have a7 : Aside0 (((ae.setCell ⟨L, 0, none⟩ (.int .i64 ((rd_T36 D G).f0))).setCell ⟨L, 1, none⟩ (.int .i64 ((rd_T36 D G).f1))).heap[ad]? = some (.cells #[.slice (some af) z.length Z, .slice aa X.length ab] 34 (0, 0))) := ⟨bf I.out⟩
                have a8 : Aside0 (((ae.setCell ⟨L, 0, none⟩ (.int .i64 ((rd_T36 D G).f0))).setCell ⟨L, 1, none⟩ (.int .i64 ((rd_T36 D G).f1))).heap[ac]? = some (.cells #[.int .i64 ((rd_T36 z s).f0), .int .i64 ((rd_T36 z s).f1)] 36 (0, 0))) := ⟨bf M.out⟩
                have a9 : Aside0 (((ae.setCell ⟨L, 0, none⟩ (.int .i64 ((rd_T36 D G).f0))).setCell ⟨L, 1, none⟩ (.int .i64 ((rd_T36 D G).f1))).heap[L]? = some (.cells #[.int .i64 ((rd_T36 D G).f0), .int .i64 ((rd_T36 D G).f1)] 36 (0, 0))) := ⟨by (with_reducible repeat (first | refine blk_drewN ?_ _ | refine blk_drew ?_ | refine blk_alloc ?_ _)); refine blk_put (cs := #[.int .i64 ((rd_T36 D G).f0), .int .i64 0]) ?_ 1 _ rfl; (with_reducible repeat (first | refine blk_drewN ?_ _ | refine blk_drew ?_ | refine blk_alloc ?_ _)); refine blk_put (cs := #[.int .i64 0, .int .i64 0]) ?_ 0 _ rfl; exact bf T.out⟩
                have ba : Aside0 (Below w.heap.size w ((ae.setCell ⟨L, 0, none⟩ (.int .i64 ((rd_T36 D G).f0))).setCell ⟨L, 1, none⟩ (.int .i64 ((rd_T36 D G).f1)))) := ⟨bs HB.out⟩
                (try clear J)
                (try clear Y)
                (try clear I)
                (try clear M)
                (try clear T)
                (try clear HB)
                generalize ((ae.setCell ⟨L, 0, none⟩ (.int .i64 ((rd_T36 D G).f0))).setCell ⟨L, 1, none⟩ (.int .i64 ((rd_T36 D G).f1))) = cJ at a5 a6 a7 a8 a9 ba ⊢
                have J := a5
                have Y := a6
                have I := a7
                have M := a8
                have T := a9
                have HB := ba
                clear a5 a6 a7 a8 a9 ba
                replace J := am (Kd.S_drew J.out)
                replace Y := rd_ Y
                replace I := bd I
                replace M := bd M
                replace T := bd T
                replace HB := hd HB
                obtain ⟨dk, dl, bP⟩ := Kd.S_slice J.out
                (first | subst bP | (injection bP with al bc an; have be := al.symm; have bg := an.symm; clear al bc an; subst be; subst bg))
                have aG : 0 ≤ (s : Int) := oda
                have aH : s < (O.length : Int) := oda
                obtain ⟨cK, aI, aJ, cL, ao, hl349_0, hi349_0⟩ := at_L9 (Kd.S_reads' J.out).2.2 s aG aH
                cases cL
                obtain ⟨dm, hce349, hMe349, bQ⟩ := Kd.S_get J.out [] s aG (by first | exact aH | exact oda | (have e_ := (Kd.S_reads' J.out).1; omega))
                obtain ⟨ve349_0, rfl, ge349_0⟩ := hMe349
                have hv349_0 := bQ 0 _ rfl
                rw [Nat.add_zero, show ((Kd.slice 3 (Kd.int .i64))).sz = 1 from rfl, Nat.mul_one] at hv349_0
                replace hv349_0 := Option.some.inj (hv349_0.symm.trans ao)
                rw [hv349_0] at ge349_0
                have HL349_0 := am (show Kd.R (Kd.int .i64) 3 _ _ _ _ (rd_L9 O s) from ge349_0)
                clear hv349_0 ge349_0
                have HX349_0 := am ao
                clear bQ hce349
                have aK := am hi349_0
                have dp := am hl349_0
                clear hi349_0 hl349_0
                replace aG := eq_true aG
                replace aH := eq_true aH
                refine sta 13 (fun w' => w'.cell? ⟨ad, 0, none⟩ = some (.slice (some af) z.length Z) ∧ w'.cell? ⟨ad, 1, none⟩ = some (.slice aa X.length ab) ∧ w'.cell? ⟨L, 0, none⟩ = some (.int .i64 ((rd_T36 D G).f0)) ∧ w'.cell? ⟨L, 1, none⟩ = some (.int .i64 ((rd_T36 D G).f1)) ∧ w'.cell? (cK.add (s).toNat) = some (.slice aI (rd_L9 O s).length aJ)) [12] ⟨cx I 0, cx I 1, cx T 0, cx T 1, ao⟩ (fun hHeld => ?_); refine with_tabW impl_nearPlaces.tab8 impl_nearPlaces.bits8 (fun HT_ HW_ => ?_)
                generalize cJ.drew = dq at J Y I M T HB HL349_0 aK HX349_0 ao hHeld ⊢
                refine pu 0 28 ?_
                refine pu 1 29 ?_
                refine pu 2 30 ?_
                refine pu 3 31 ?_
                refine pu 4 32 ?_
                refine tk 5 33 ?_
                refine tk 6 34 ?_
                refine tk 7 35 ?_
                refine on 8 36 (fun K hK => ?_)
                refine gs Try.func67 #[.agg #[.slice (some af) z.length Z, .slice aa X.length ab], .agg #[.int .i64 ((rd_T36 D G).f0), .int .i64 ((rd_T36 D G).f1)]] ?_
                with_reducible refine (impl_nodePlace.calls k2 _ _ z _ _ X ((rd_T36 D G).f0) ((rd_T36 D G).f1) aD _ ?aV ?aW ?aX ?aY cy.out).mono ?_
                (case aV => exact Kd.C_below aN.out (bs HB.out))
                (case aW => exact bn.out)
                (case aX => exact Kd.C_below bo.out (bs HB.out))
                (case aY => exact br.out)
                rintro e cM ⟨rfl, hb⟩
                have aM := cw hb hHeld.2.2.2.2
                refine ⟨_, rfl, ?_⟩
                replace J := am (Kd.S_below (by (with_reducible repeat (first | apply Kd.S_alloc | apply Kd.S_drewN | apply Kd.S_drew)); exact J.out) hb)
                replace Y := rb Y hb
                replace HL349_0 := am (Kd.R_below (by (with_reducible repeat (first | apply Kd.R_alloc | apply Kd.R_drewN | apply Kd.R_drew)); exact HL349_0.out) hb)
                replace I := bb I hb rfl
                replace M := bb M hb rfl
                replace T := bb T hb rfl
                replace aK := am (Kd.C_below (by repeat (first | (with_reducible exact aK.out) | (with_reducible refine Kd.C_alloc ?_ _) | (with_reducible refine Kd.C_drewN ?_ _) | (with_reducible refine Kd.C_drew ?_) | exact aK.out)) hb)
                replace HX349_0 := am (pw_cell_below hb HX349_0.out)
                replace HB := hs HB hb
                (try clear hb)
                (try clear hb2)
                (try clear hk)
                (try clear hi)
                obtain ⟨ap, dr, bR, bS, cN, dt, bT⟩ := Kd.S_form J.out (by have h_ : (s : Int) < ((O.length : Int) : Int) := oda; have du : 0 ≤ (s : Int) := (oda); omega)
                (first | cases bR | (injection bR with ea_ en_ ec_; (first | subst ea_ | (injection ea_ with ea_; subst ea_)); subst ec_; clear en_))
                have cO := am bS
                have dv := am bT
                clear bS cN bT
                (first | simp only [add_plain] at ao | skip)
                obtain ⟨oki35, dw, cP, cQ, bU, _, _, hH35⟩ := Kd.S_elem J.out [] (s : Int) (oda) (by have h_ : (s : Int) < ((O.length : Int) : Int) := oda; first | exact h_ | (have e_ := (Kd.S_reads' J.out).1; omega) | simpa using h_)
                obtain ⟨ve35_0, rfl, ge35_0⟩ := cQ
                have hv35 := bU 0 _ rfl
                have hX35 := HX349_0.out
                (try simp only [add_plain] at hX35)
                (try simp only [Nat.add_zero] at hv35)
                (try rw [show ((Kd.slice 3 (Kd.int .i64))).sz = 1 from rfl, Nat.mul_one] at hv35)
                replace hv35 := Option.some.inj (hv35.symm.trans hX35)
                subst hv35
                clear hX35 bU cP
                have UU35 := am (show Kd.R (Kd.int .i64) 3 _ w.heap.size oki35 (.slice aI (rd_L9 O s).length aJ) (rd_L9 O s) from ge35_0)
                have HH35 := am hH35
                have HN35 := am (Kd.S_reads' J.out).1
                clear hH35 ge35_0
                refine hK.out _ _ ⟨cx I 0, cx I 1, cx T 0, cx T 1, aM⟩ (fun hHeld => ?_)
                clear hK K
                refine nrm 36 ?_
                refine on 9 37 (fun K hK => ?_)
                refine va ?_
                refine hK.out _ _ ⟨cx I 0, cx I 1, cx T 0, cx T 1, ca hHeld.2.2.2.2⟩ (fun hHeld => ?_)
                clear hK K
                refine nrm 37 ?_
                refine on 10 38 (fun K hK => ?_)
                refine Kd.R_append_step (Kd.int .i64) (w0 := w) w.heap.size (by rfl) (.tmp 33) (.tmp 37) 43 3 (.int .i64 0) 8 rfl Try.underlying43 info3 rfl (by decide) (by omega) (.slice aI (rd_L9 O s).length aJ) (rd_L9 O s) aD [.int .i64 aD] (fun k_ => oki35 k_ ∨ ((fun _ => True)) k_ ∧ cM.heap.size ≤ k_) (fun _ => False) rfl rfl ?aP (fun _ hk => hk.elim) ?aF ?aO ?aB ?aS ?aL ?_
                (case aP => exact rfl)
                (case aB => exact (bs HB.out))
                (case aF => exact (fun k_ hk => .inr ⟨trivial, hk⟩))
                (case aO => exact (by (with_reducible repeat (first | apply Kd.R_alloc | apply Kd.R_drewN | apply Kd.R_drew)); exact Kd.R_mono UU35.out (fun _ hk => .inl hk)))
                (case aS => exact (below_size (bs HB.out)))
                (case aL => have := cz.out; omega)
                intro dx dy ho hb hg hat
                (first | have aM := Go.Proofs.YtohmemckdogljaaW.PrintWords.cell_grown hg (hHeld.2.2.2.2) (by first | (rw [add_block]; exact (fun e_ => ((HL349_0.out.1 _ e_.symm).2) rfl)) | (show some (Addr.add _ _).block ≠ _; rw [add_block]; exact (fun e_ => ((HL349_0.out.1 _ e_.symm).2) rfl)) | exact (fun e_ => ((HL349_0.out.1 _ e_.symm).2) rfl)) | have aM := Go.Proofs.YtohmemckdogljaaW.PrintWords.cell_grown hg (cell_unalloc (hHeld.2.2.2.2) (by first | (rw [add_block]; exact Kd.S_lt J.out _ rfl) | (show (Addr.add _ _).block < _; rw [add_block]; exact Kd.S_lt J.out _ rfl) | exact Kd.S_lt J.out _ rfl)) (by first | (rw [add_block]; exact (fun e_ => ((HL349_0.out.1 _ e_.symm).2) rfl)) | (show some (Addr.add _ _).block ≠ _; rw [add_block]; exact (fun e_ => ((HL349_0.out.1 _ e_.symm).2) rfl)) | exact (fun e_ => ((HL349_0.out.1 _ e_.symm).2) rfl)))
                rw [← cA.out] at ho
                replace Y := am (Kd.R_over' (v := (.slice aI (rd_L9 O s).length aJ)) (rl Y.out) (Kd.R_typed HL349_0.out) (by decide) hg)
                replace I := am (blk_grown (g := ad) (o := .cells #[.slice (some af) z.length Z, .slice aa X.length ab] 34 (0, 0)) (bf I.out) hg (Kd.R_ne HL349_0.out I.out (by decide)))
                replace M := am (blk_grown (g := ac) (o := .cells #[.int .i64 ((rd_T36 z s).f0), .int .i64 ((rd_T36 z s).f1)] 36 (0, 0)) (bf M.out) hg (Kd.R_ne HL349_0.out M.out (by decide)))
                replace T := am (blk_grown (g := L) (o := .cells #[.int .i64 ((rd_T36 D G).f0), .int .i64 ((rd_T36 D G).f1)] 36 (0, 0)) (bf T.out) hg (Kd.R_ne HL349_0.out T.out (by decide)))
                replace HB := am hb
                replace HH35 := am (Kd.H_grown (Kd.H_widen (by repeat (first | exact HH35.out | refine Kd.H_alloc ?_ _ | refine Kd.H_drewN ?_ _ | refine Kd.H_drew ?_))) hg (fun k_ e_ => .inl (UU35.out.1 k_ e_)))
                have bV := am ho
                clear J UU35 HL349_0
                clear ho hb hg hat
                have bW : 0 ≤ (s : Int) := oda
                have bX : (s : Int) < ((O.length : Int) : Int) := oda
                replace bW := eq_true bW
                replace bX := eq_true bX
                obtain ⟨bY, bZ, b0⟩ := Kd.R_slice bV.out
                (first | subst b0 | (injection b0 with al bc an; have be := al.symm; have bg := an.symm; clear al bc an; subst be; subst bg))
                obtain ⟨_, _, hraw37, _, _, b1, _⟩ := Kd.H_raw HH35.out (oda) (by have h_ : (s : Int) < ((O.length : Int) : Int) := oda; first | exact h_ | (have e_ := (HN35.out); omega) | simpa using h_)
                obtain ⟨_, b2⟩ := Kd.H_at HH35.out (oda) (by have h_ : (s : Int) < ((O.length : Int) : Int) := oda; first | exact h_ | (have e_ := (HN35.out); omega) | simpa using h_)
                have b3 := b1 0 _ rfl
                have b4 := b2 0
                (try simp only [Nat.add_zero] at b3 b4)
                (try rw [show ((Kd.slice 3 (Kd.int .i64))).sz = 1 from rfl, Nat.mul_one] at b3)
                (try rw [show ((Kd.slice 3 (Kd.int .i64))).sz = 1 from rfl, Nat.mul_one] at b4)
                have bh := Kd.S_seg0 HH35.out (oda) (by have h_ : (s : Int) < ((O.length : Int) : Int) := oda; first | exact h_ | (have e_ := (HN35.out); omega) | simpa using h_) (seg := [.slice bY ak.length bZ]) (j := 0) (show 1 ≤ 1 from by decide) (x' := ak) (Kd.M_row bV.out) (fun _ hk => hk)
                (try simp only [show ((Kd.slice 3 (Kd.int .i64))).sz = 1 from rfl, Nat.mul_one, Nat.add_zero] at bh)
                clear b1 b2
                have HNB338_go35 := Nq.mk (show ad ≠ ap from by have h_ := Kd.R_ne hraw37 I.out (by decide); intro e_; exact h_ (by rw [e_]; rfl))
                have HNB343_go35 := Nq.mk (show ac ≠ ap from by have h_ := Kd.R_ne hraw37 M.out (by decide); intro e_; exact h_ (by rw [e_]; rfl))
                have HNB348_go35 := Nq.mk (show L ≠ ap from by have h_ := Kd.R_ne hraw37 T.out (by decide); intro e_; exact h_ (by rw [e_]; rfl))
                have HS37 := bh.1
                rw [← cB.out] at HS37
                have cR := am HS37
                obtain ⟨_, hgg37⟩ := Kd.R_typed hraw37 ap rfl
                have GG37_ := am hgg37
                clear bh HS37 hgg37
                refine hK.out _ _ ⟨cx I 0, cx I 1, cx T 0, cx T 1, aM⟩ (fun hHeld => ?_)
                clear hK K
                refine nrm 38 ?_
                refine pu 11 39 ?_
                refine la0 12 (fun K hK => ?_)
                refine sk ?_
                refine hK.out _ _ ?_
                clear hK K
                refine dn ?_
                try go_wp2
                go_roundg k2
                case measure => have := au.out; have := ax.out; omega
                case rel => exact ⟨(bO), (wrap64 (G + 1)), eqs, H', ⟨by have := au.out; have := ax.out; omega⟩, ⟨by (with_reducible repeat (first | apply Kd.S_alloc | apply Kd.S_drewN | apply Kd.S_drew)); exact cR.out⟩, ⟨by (with_reducible repeat (first | apply Kd.R_alloc | apply Kd.R_drewN | apply Kd.R_drew)); exact Kd.R_mono (Kd.R_far (p := ⟨ap, (s : Int).toNat, none⟩) (Kd.R_types Y.out GG37_.out (by decide)) (fun _ hk => hk.2) (.slice bY ak.length bZ)) (fun _ hk => hk.1.1)⟩, ⟨bf I.out⟩, ⟨bf M.out⟩, ⟨by repeat (first | (with_reducible first | exact HB.out | apply below_alloc | apply pw_below_drewN | apply below_drew1 | refine below_set ?_ cO.out | refine below_set ?_ b5.out | refine below_set ?_ cg.out | refine below_set ?_ cE.out) | exact HB.out)⟩⟩
               ·rw [if_neg aE] at H
                exact absurd H (by simp)
              ·rw [if_neg aC] at H
               exact absurd H (by simp)
             ·rw [if_neg aA] at H
              exact absurd H (by simp)
            ·rw [if_neg az] at H
             exact absurd H (by simp)
           ·rw [if_neg ay] at H
            exact absurd H (by simp)
          ·rw [if_neg ag] at H
           have cv : decide (G < (D.length : Int)) = false := decide_eq_false ag
           clear ag
           have H' := am H
           clear H
           go_wp2
           go_roundg k2
           case measure => have := au.out; have := ax.out; omega
           case rel => exact ⟨(O), (wrap64 (s + 1)), eqs, H', ⟨by have := au.out; have := ax.out; omega⟩, ⟨by (with_reducible repeat (first | apply Kd.S_alloc | apply Kd.S_drewN | apply Kd.S_drew)); exact J.out⟩, ⟨bf I.out⟩, ⟨bs HB.out⟩⟩
       ·rw [if_neg aj] at H
        exact absurd H (by simp)
      ·rw [if_neg ai] at H
       exact absurd H (by simp)
     ·rw [if_neg c9] at H
      have bH : decide (s < (z.length : Int)) = false := decide_eq_false c9
      clear c9
      obtain rfl := Option.some.inj H
      go_wp2
      go_ret
      exact ⟨_, eqr, by (with_reducible repeat (first | apply Kd.S_alloc | apply Kd.S_drewN | apply Kd.S_drew)); exact J.out, bs HB.out⟩
  ·rw [if_neg c3] at H
   exact absurd H (by simp)
 ·rw [if_neg c2] at H
  exact absurd H (by simp)

/-! ### impl_stepsFrom: function 69 -/
mutual
def impl_stepsFrom.l0 : Nat → List (List Int) → Int → List Int → Int → Int → Option (List Int × List Int)
 | 0, _, _, _, _, _ => none
 | k + 1, D, s, z, G, y => if y < G then (if 0 ≤ y then (if y < (z.length : Int) then (impl_stepsFrom.l0 k D s (z.set (y : Int).toNat (-1)) G (wrap64 (y + 1))) else (none)) else (none)) else (if 0 ≤ s then (if s < (z.length : Int) then (impl_stepsFrom.l1 k D (z.set (s : Int).toNat 0) (([s] : List Int)) 0) else (none)) else (none))
def impl_stepsFrom.l1 : Nat → List (List Int) → List Int → List Int → Int → Option (List Int × List Int)
 | 0, _, _, _, _ => none
 | k + 1, z, D, s, y => if y < (s.length : Int) then (if 0 ≤ y then (if 0 ≤ (rd s y) then (if (rd s y) < (z.length : Int) then (impl_stepsFrom.l2 k z D s y (rd s y) (rd_L9 z (rd s y)) ((rd_L9 z (rd s y)).length : Int) 0) else (none)) else (none)) else (none)) else (some (D, s))
def impl_stepsFrom.l2 : Nat → List (List Int) → List Int → List Int → Int → Int → List Int → Int → Int → Option (List Int × List Int)
 | 0, _, _, _, _, _, _, _, _ => none
 | k + 1, I, z, G, J, D, y, L, s => if s < L then (if 0 ≤ s then (if s < (y.length : Int) then (if 0 ≤ (rd y s) then (if (rd y s) < (z.length : Int) then (if (rd z (rd y s)) < 0 then (if 0 ≤ D then (if D < (z.length : Int) then (if G.length < 17592186044416 then (impl_stepsFrom.l2 k I (z.set ((rd y s) : Int).toNat (wrap64 ((rd z D) + 1))) (G ++ [rd y s]) J D y L (wrap64 (s + 1))) else (none)) else (none)) else (none)) else (impl_stepsFrom.l2 k I z G J D y L (wrap64 (s + 1)))) else (none)) else (none)) else (none)) else (none)) else (impl_stepsFrom.l1 k I z G (wrap64 (J + 1)))
end
def impl_stepsFrom.f (k : Nat) (l0 : List (List Int)) (y : Int) : Option (List Int × List Int) := if 0 ≤ (l0.length : Int) then (if ((l0.length : Int) : Int).toNat ≤ 35184372088832 then ((some (List.replicate ((l0.length : Int) : Int).toNat 0 : List Int)).bind fun s => (impl_stepsFrom.l0 k l0 y s (s.length : Int) 0)) else (none)) else (none)
theorem impl_stepsFrom.calls (k : Nat) (A0 : Option Addr) (c0 : Nat) (l0 : List (List Int)) (J : Int) (X : List Int) (Y : List Int) (w : World) (bB : Kd.C (Kd.slice 3 (Kd.int .i64)) w A0 l0.length l0) (bC : l0.length ≤ c0) (h : impl_stepsFrom.f k l0 J = some (X, Y)) :
  Calls Try.prog 69 #[.slice A0 l0.length c0, .int .i64 J] w fun e w' => ∃ aY aZ : Value, e = .returned (.tuple #[aY, aZ]) ∧ Kd.R (Kd.int .i64) 3 w' w.heap.size (fun k_ => some k_ ≠ (aZ : Value).ownBlock) aY X ∧ Kd.R (Kd.int .i64) 3 w' w.heap.size (fun k_ => some k_ ≠ (aY : Value).ownBlock) aZ Y ∧ Below w.heap.size w w' := by
 have bX := am bB
 have cD := am bC
 clear bB bC
 have HB := am (Below.refl w.heap.size w)
 have H := h; unfold impl_stepsFrom.f at H
 clear h
 by_cases c3 : 0 ≤ (l0.length : Int)
 ·rw [if_pos c3] at H
  have a2 := eq_true c3
  have a3 : decide (0 ≤ (l0.length : Int)) = true := decide_eq_true c3
  clear c3
  by_cases c4 : ((l0.length : Int) : Int).toNat ≤ 35184372088832
  ·rw [if_pos c4] at H
   have a4 := eq_true c4
   have a5 : decide (((l0.length : Int) : Int).toNat ≤ 35184372088832) = true := decide_eq_true c4
   clear c4
   obtain ⟨ab, a6⟩ : ∃ y_ : List Int, y_ = (List.replicate ((l0.length : Int) : Int).toNat 0) := ⟨_, rfl⟩
   replace H : (impl_stepsFrom.l0 k l0 J ab (ab.length : Int) 0) = some (X, Y) := by first | (rw [a6]; exact H) | exact H
   have bD := am a6
   clear a6
   have H' := am H
   clear H
   go_enter Try.func69, Try.ntmps69
   go_wp2_with (first | ((with_reducible refine gd 15 rfl ?_); refine Kd.R_make (Kd.int .i64) _ 3 rfl (N := 15) rfl 43 _ _ rfl (l0.length : Int) rfl rfl Try.underlying43 (.int .i64 0) 8 info3 rfl (by decide) (by omega) 0 (ok := fun _ => True) (okp := fun _ => True) rfl (fun _ hk => hk) trivial (oda) (Nat.le_trans (Nat.mul_le_mul_right _ (oda : (l0.length : Int).toNat ≤ 35184372088832)) (by omega)) (Below.refl _ _) (Nat.le_refl _) ?_; intro cE w5 az hb hg_ hnew_; clear hg_ hnew_; (first | rw [← bD.out] at az | (simp only [Int.reduceToNat] at az; rw [← bD.out] at az)); have bE := am (Kd.R_lower az (below_size (bs HB.out))); replace HB := hs HB hb; clear hb az; obtain ⟨bY, Z, bZ⟩ := Kd.R_slice bE.out; subst bZ))
   go_loopg [18] k (fun kq b0 w' => ∃ (O : List Int) (L : Int), b0 = .int .i64 L ∧ Aside0 (impl_stepsFrom.l0 kq l0 J O (ab.length : Int) L = some (X, Y)) ∧ Aside0 (kq ≤ k) ∧ Aside0 (Kd.R (Kd.int .i64) 3 w' w.heap.size (fun _ => True) (.slice bY ab.length Z) O) ∧ Aside0 (Below w.heap.size w w'))
   case atStart => exact ⟨(ab), (0), eqs, H', ⟨Nat.le_refl _⟩, ⟨rl bE.out⟩, ⟨bs HB.out⟩⟩
   case round =>
    clear H'
    try clear p2
    try clear c3
    try clear a2
    try clear a3
    try clear c4
    try clear a4
    try clear a5
    try clear c6
    obtain ⟨O, L, rfl, HA, ac, D, HB⟩ := hrel
    have hl6_1 := (Kd.R_reads' D.out).1
    rw [hl6_1] at D
    (try simp only [hl6_1])
    cases gk with
    | zero => exact absurd HA.out (by simp [impl_stepsFrom.l0])
    | succ k1 =>
     have H := HA.out
     clear HA
     simp only [impl_stepsFrom.l0] at H
     by_cases c8 : L < (ab.length : Int)
     ·rw [if_pos c8] at H
      have aA : decide (L < (ab.length : Int)) = true := decide_eq_true c8
      (try simp only [hl6_1] at aA)
      clear c8
      by_cases c9 : 0 ≤ L
      ·rw [if_pos c9] at H
       have bF : decide (0 ≤ L) = true := decide_eq_true c9
       clear c9
       by_cases ao : L < (O.length : Int)
       ·rw [if_pos ao] at H
        have bG : decide (L < (O.length : Int)) = true := decide_eq_true ao
        clear ao
        obtain ⟨a7, a8⟩ : ∃ y_ : List Int, y_ = (O.set (L : Int).toNat (-1)) := ⟨_, rfl⟩
        replace H : (impl_stepsFrom.l0 k1 l0 J a7 (ab.length : Int) (wrap64 (L + 1))) = some (X, Y) := by first | (rw [a8]; exact H) | exact H
        have b1 := am a8
        clear a8
        have H' := am H
        clear H
        have ad : 0 ≤ (L : Int) := oda
        have ae : (L : Int) < ((O.length : Int) : Int) := oda
        obtain ⟨a9, cF, bH, bI, b2, cG, bJ⟩ := Kd.R_form D.out (by omega)
        (first | cases bH | (injection bH with ea_ en_ ec_; (first | subst ea_ | (injection ea_ with ea_; subst ea_)); subst ec_; clear en_))
        have b3 := am bI
        have cH := am bJ
        clear bI b2 bJ
        obtain ⟨bK, cI⟩ := Kd.R_celln 0 D.out (L : Int) ad ae
        replace ad := eq_true ad
        replace ae := eq_true ae
        have ba := Kd.R_putg D.out (L : Int) (-1)
        go_wp2_with (first | ((with_reducible refine gate_store (t := 3) (p := 23) rfl ?_); refine store_event (t := 3) (p := 23) (v := ?vo_w13) (w1 := (wr.setCell ⟨a9, (L : Int).toNat, none⟩ (.int .i64 (-1)))) ?hg ?ho ?hn ?hr ?_; (case ho => rfl); (case hg => rfl); (case hn => rfl); (case hr => first | (go_simp; done) | (go_simp; rfl)); intro bc hw; have hg : wr.grownBy bc (some a9) := (by rw [hw]; exact ba.2); have hp_ : Kd.R (Kd.int .i64) 3 bc w.heap.size (fun _ => True) (.slice (some ⟨a9, 0, none⟩) O.length Z) a7 := (by rw [hw, b1.out]; exact ba.1); clear ba; replace D := am hp_; replace HB := am ((by rw [hw]; exact below_set (HB.out) b3.out : Below w.heap.size w bc)); clear hg hw hp_))
        (try simp only [← hl6_1])
        go_roundg k1
        case measure => have := ac.out; omega
        case rel => exact ⟨(a7), (wrap64 (L + 1)), eqs, H', ⟨by have := ac.out; omega⟩, ⟨by (try simp only [hl6_1]); (with_reducible repeat (first | apply Kd.R_alloc | apply Kd.R_drewN | apply Kd.R_drew)); exact D.out⟩, ⟨bs HB.out⟩⟩
       ·rw [if_neg ao] at H
        exact absurd H (by simp)
      ·rw [if_neg c9] at H
       exact absurd H (by simp)
     ·rw [if_neg c8] at H
      have aA : decide (L < (ab.length : Int)) = false := decide_eq_false c8
      (try simp only [hl6_1] at aA)
      clear c8
      by_cases ap : 0 ≤ J
      ·rw [if_pos ap] at H
       have bL : decide (0 ≤ J) = true := decide_eq_true ap
       clear ap
       by_cases aq : J < (O.length : Int)
       ·rw [if_pos aq] at H
        have bM : decide (J < (O.length : Int)) = true := decide_eq_true aq
        clear aq
        obtain ⟨aH, be⟩ : ∃ y_ : List Int, y_ = (O.set (J : Int).toNat 0) := ⟨_, rfl⟩
        replace H : (impl_stepsFrom.l1 k1 l0 aH (([J] : List Int)) 0) = some (X, Y) := by first | (rw [be]; exact H) | exact H
        have b4 := am be
        clear be
        obtain ⟨bN, bg⟩ : ∃ y_ : List Int, y_ = (([J] : List Int)) := ⟨_, rfl⟩
        replace H : (impl_stepsFrom.l1 k1 l0 aH bN 0) = some (X, Y) := by first | (rw [bg]; exact H) | exact H
        have bO := am bg
        clear bg
        have H' := am H
        clear H
        have af : 0 ≤ (J : Int) := oda
        have ag : (J : Int) < ((O.length : Int) : Int) := oda
        obtain ⟨M, cJ, bP, bQ, b5, cK, bR⟩ := Kd.R_form D.out (by omega)
        (first | cases bP | (injection bP with ea_ en_ ec_; (first | subst ea_ | (injection ea_ with ea_; subst ea_)); subst ec_; clear en_))
        have bS := am bQ
        have cL := am bR
        clear bQ b5 bR
        obtain ⟨bT, cM⟩ := Kd.R_celln 0 D.out (J : Int) af ag
        replace af := eq_true af
        replace ag := eq_true ag
        have bh := Kd.R_putg D.out (J : Int) 0
        go_wp2_with (first | ((with_reducible refine gate_store (t := 3) (p := 27) rfl ?_); refine store_event (t := 3) (p := 27) (v := ?vo_w18) (w1 := (wr.setCell ⟨M, (J : Int).toNat, none⟩ (.int .i64 0))) ?hg ?ho ?hn ?hr ?_; (case ho => rfl); (case hg => rfl); (case hn => rfl); (case hr => first | (go_simp; done) | (go_simp; rfl)); intro bi hw; have hg : wr.grownBy bi (some M) := (by rw [hw]; exact bh.2); have hp_ : Kd.R (Kd.int .i64) 3 bi w.heap.size (fun _ => True) (.slice (some ⟨M, 0, none⟩) O.length Z) aH := (by rw [hw, b4.out]; exact bh.1); clear bh; replace D := am hp_; replace HB := am ((by rw [hw]; exact below_set (HB.out) bS.out : Below w.heap.size w bi)); clear hg hw hp_) | ((with_reducible refine gd 29 rfl ?_); refine rli (k := .i64) 3 29 ([J] : List Int) ?_; intro cN cO ar hb hg_ hnew_; clear hg_ hnew_; (first | rw [← bO.out] at ar | (simp only [Int.reduceToNat] at ar; rw [← bO.out] at ar)); have b6 := am (Kd.R_lower (Kd.R_new' ar (rk D)) (below_size (bs HB.out))); replace D := re D ar hb; replace HB := hs HB hb; clear hb ar))
        go_loopg [8, 9] k1 (fun kq v8 v9 w' => ∃ (au : List Int) (y : List Int) (s : Int), v9 = .int .i64 s ∧ Aside0 (impl_stepsFrom.l1 kq l0 au y s = some (X, Y)) ∧ Aside0 (kq ≤ k1) ∧ Aside0 (Kd.R (Kd.int .i64) 3 w' w.heap.size (fun k_ => some k_ ≠ (v8 : Value).ownBlock) (.slice (some ⟨M, 0, none⟩) O.length Z) au) ∧ Aside0 (Kd.R (Kd.int .i64) 3 w' w.heap.size (fun k_ => some k_ ≠ ((.slice (some ⟨M, 0, none⟩) O.length Z) : Value).ownBlock) v8 y) ∧ Aside0 (Below w.heap.size w w'))
        case atStart => exact ⟨(aH), (bN), (0), eqs, H', ⟨Nat.le_refl _⟩, ⟨by (try simp only [hl6_1]); (with_reducible repeat (first | apply Kd.R_alloc | apply Kd.R_drewN | apply Kd.R_drew)); exact Kd.R_mono D.out (fun _ hk => hk.2)⟩, ⟨by (try simp only [hl6_1]); (with_reducible repeat (first | apply Kd.R_alloc | apply Kd.R_drewN | apply Kd.R_drew)); exact Kd.R_mono b6.out (fun _ hk => hk.2)⟩, ⟨bs HB.out⟩⟩
        case round =>
         clear H'
         try clear c1
         try clear p1
         try clear q1
         try clear b7
         try clear p2
         try clear c3
         try clear a2
         try clear a3
         try clear c4
         try clear a4
         try clear a5
         try clear c6
         try clear p6
         try clear c8
         try clear aA
         try clear c9
         try clear bF
         try clear ao
         try clear bG
         try clear ad
         try clear ae
         try clear b8
         try clear b9
         try clear ap
         try clear bL
         try clear aq
         try clear bM
         try clear af
         try clear ag
         try clear ce
         try clear cf
         try clear bK
         try clear bT
         try clear ad
         try clear af
         try clear p2
         try clear ae
         try clear ag
         obtain ⟨au, y, s, rfl, HA, av, D, T, HB⟩ := hrel
         have hl6_2 := (Kd.R_reads' D.out).1
         rw [hl6_2] at D
         (try simp only [hl6_2])
         (try simp only [hl6_2] at T)
         cases gk with
         | zero => exact absurd HA.out (by simp [impl_stepsFrom.l1])
         | succ k2 =>
          have H := HA.out
          clear HA
          simp only [impl_stepsFrom.l1] at H
          by_cases ah : s < (y.length : Int)
          ·rw [if_pos ah] at H
           have bU : decide (s < (y.length : Int)) = true := decide_eq_true ah
           clear ah
           by_cases aC : 0 ≤ s
           ·rw [if_pos aC] at H
            have cg : decide (0 ≤ s) = true := decide_eq_true aC
            clear aC
            by_cases aD : 0 ≤ (rd y s)
            ·rw [if_pos aD] at H
             have ch : decide (0 ≤ (rd y s)) = true := decide_eq_true aD
             clear aD
             by_cases aE : (rd y s) < (l0.length : Int)
             ·rw [if_pos aE] at H
              have ci : decide ((rd y s) < (l0.length : Int)) = true := decide_eq_true aE
              clear aE
              have H' := am H
              clear H
              obtain ⟨cP, cQ, cj⟩ := Kd.R_slice T.out
              subst cj
              have aI : 0 ≤ (s : Int) := oda
              have aJ : s < (y.length : Int) := oda
              obtain ⟨cR, ck, cl⟩ := Kd.at_int (Kd.R_reads' T.out).2.2 s aI aJ
              cases ck
              replace aI := eq_true aI
              replace aJ := eq_true aJ
              have aK : 0 ≤ ((rd y s) : Int) := oda
              have aM : (rd y s) < (l0.length : Int) := oda
              obtain ⟨cS, cT, cU, cm, bj, hl364_0, hi364_0⟩ := at_L9 bX.out (rd y s) aK aM
              cases cm
              replace bj := cb HB bj
              have bV := am hi364_0
              have cV := am hl364_0
              clear hi364_0 hl364_0
              replace aK := eq_true aK
              replace aM := eq_true aM
              go_wp2
              go_loopg [8, 45] k2 (fun kq v8 cn w' => ∃ (G : List Int) (aa : List Int) (z : Int), cn = .int .i64 z ∧ Aside0 (impl_stepsFrom.l2 kq l0 G aa s (rd y s) (rd_L9 l0 (rd y s)) ((rd_L9 l0 (rd y s)).length : Int) z = some (X, Y)) ∧ Aside0 (kq ≤ k2) ∧ Aside0 (Kd.R (Kd.int .i64) 3 w' w.heap.size (fun k_ => some k_ ≠ (v8 : Value).ownBlock) (.slice (some ⟨M, 0, none⟩) au.length Z) G) ∧ Aside0 (Kd.R (Kd.int .i64) 3 w' w.heap.size (fun k_ => some k_ ≠ ((.slice (some ⟨M, 0, none⟩) au.length Z) : Value).ownBlock) v8 aa) ∧ Aside0 (Below w.heap.size w w'))
              case atStart => exact ⟨(au), (y), (0), eqs, H', ⟨Nat.le_refl _⟩, ⟨by (try simp only [hl6_1]); (try simp only [hl6_2]); (with_reducible repeat (first | apply Kd.R_alloc | apply Kd.R_drewN | apply Kd.R_drew)); exact D.out⟩, ⟨by (try simp only [hl6_1]); (try simp only [hl6_2]); (with_reducible repeat (first | apply Kd.R_alloc | apply Kd.R_drewN | apply Kd.R_drew)); exact T.out⟩, ⟨bs HB.out⟩⟩
              case round =>
               clear H'
               try clear c1
               try clear p1
               try clear q1
               try clear b7
               try clear c2
               try clear p2
               try clear c3
               try clear a2
               try clear a3
               try clear p3
               try clear q3
               try clear cW
               try clear c4
               try clear a4
               try clear a5
               try clear c6
               try clear p6
               try clear c8
               try clear aA
               try clear c9
               try clear bF
               try clear ao
               try clear bG
               try clear ad
               try clear ae
               try clear b8
               try clear b9
               try clear ap
               try clear bL
               try clear aq
               try clear bM
               try clear af
               try clear ag
               try clear ce
               try clear cf
               try clear ah
               try clear bU
               try clear aC
               try clear cg
               try clear aD
               try clear ch
               try clear aE
               try clear ci
               try clear bK
               try clear bT
               try clear cl
               try clear bj
               try clear p1
               try clear ad
               try clear af
               try clear p2
               try clear aI
               try clear aK
               try clear p6
               try clear q1
               try clear ae
               try clear ag
               try clear aJ
               try clear aM
               obtain ⟨G, aa, z, rfl, HA, aw, D, T, HB⟩ := hrel
               have hl6_3 := (Kd.R_reads' D.out).1
               rw [hl6_3] at D
               (try simp only [hl6_3])
               (try simp only [hl6_3] at T)
               cases gk with
               | zero => exact absurd HA.out (by simp [impl_stepsFrom.l2])
               | succ k3 =>
                have H := HA.out
                clear HA
                simp only [impl_stepsFrom.l2] at H
                by_cases ax : z < ((rd_L9 l0 (rd y s)).length : Int)
                ·rw [if_pos ax] at H
                 have co : decide (z < ((rd_L9 l0 (rd y s)).length : Int)) = true := decide_eq_true ax
                 clear ax
                 by_cases aN : 0 ≤ z
                 ·rw [if_pos aN] at H
                  have cX : decide (0 ≤ z) = true := decide_eq_true aN
                  clear aN
                  by_cases aQ : z < ((rd_L9 l0 (rd y s)).length : Int)
                  ·rw [if_pos aQ] at H
                   have cY : decide (z < ((rd_L9 l0 (rd y s)).length : Int)) = true := decide_eq_true aQ
                   clear aQ
                   by_cases aR : 0 ≤ (rd (rd_L9 l0 (rd y s)) z)
                   ·rw [if_pos aR] at H
                    have cZ : decide (0 ≤ (rd (rd_L9 l0 (rd y s)) z)) = true := decide_eq_true aR
                    clear aR
                    by_cases aT : (rd (rd_L9 l0 (rd y s)) z) < (G.length : Int)
                    ·rw [if_pos aT] at H
                     have c7 : decide ((rd (rd_L9 l0 (rd y s)) z) < (G.length : Int)) = true := decide_eq_true aT
                     clear aT
                     by_cases ay : (rd G (rd (rd_L9 l0 (rd y s)) z)) < 0
                     ·rw [if_pos ay] at H
                      have cp : decide ((rd G (rd (rd_L9 l0 (rd y s)) z)) < 0) = true := decide_eq_true ay
                      clear ay
                      by_cases aU : 0 ≤ (rd y s)
                      ·rw [if_pos aU] at H
                       have da : decide (0 ≤ (rd y s)) = true := decide_eq_true aU
                       clear aU
                       by_cases aV : (rd y s) < (G.length : Int)
                       ·rw [if_pos aV] at H
                        have db : decide ((rd y s) < (G.length : Int)) = true := decide_eq_true aV
                        clear aV
                        obtain ⟨aW, bk⟩ : ∃ y_ : List Int, y_ = (G.set ((rd (rd_L9 l0 (rd y s)) z) : Int).toNat (wrap64 ((rd G (rd y s)) + 1))) := ⟨_, rfl⟩
                        replace H : (if aa.length < 17592186044416 then (impl_stepsFrom.l2 k3 l0 aW (aa ++ [rd (rd_L9 l0 (rd y s)) z]) s (rd y s) (rd_L9 l0 (rd y s)) ((rd_L9 l0 (rd y s)).length : Int) (wrap64 (z + 1))) else (none)) = some (X, Y) := by first | (rw [bk]; exact H) | exact H
                        have ct := am bk
                        clear bk
                        by_cases aX : aa.length < 17592186044416
                        ·rw [if_pos aX] at H
                         have cu := am aX
                         clear aX
                         obtain ⟨bW, bl⟩ : ∃ y_ : List Int, y_ = (aa ++ [rd (rd_L9 l0 (rd y s)) z]) := ⟨_, rfl⟩
                         replace H : (impl_stepsFrom.l2 k3 l0 aW bW s (rd y s) (rd_L9 l0 (rd y s)) ((rd_L9 l0 (rd y s)).length : Int) (wrap64 (z + 1))) = some (X, Y) := by first | (rw [bl]; exact H) | exact H
                         have cv := am bl
                         clear bl
                         have H' := am H
                         clear H
                         have ai : 0 ≤ (z : Int) := oda
                         have aj : z < ((rd_L9 l0 (rd y s)).length : Int) := oda
                         obtain ⟨cy, bm, aG⟩ := Kd.at_int bV.out z ai aj
                         cases bm
                         replace aG := cb HB aG
                         replace ai := eq_true ai
                         replace aj := eq_true aj
                         have ak : 0 ≤ ((rd (rd_L9 l0 (rd y s)) z) : Int) := oda
                         have al : (rd (rd_L9 l0 (rd y s)) z) < (G.length : Int) := oda
                         obtain ⟨bn, bo, an⟩ := Kd.at_int (Kd.R_reads' D.out).2.2 (rd (rd_L9 l0 (rd y s)) z) ak al
                         obtain rfl : (⟨M, 0, none⟩ : Addr) = bn := (by injection bo)
                         (first | simp only [add_plain] at an | simp only [add_at] at an | simp only [Addr.add, Nat.zero_add] at an | skip)
                         replace ak := eq_true ak
                         replace al := eq_true al
                         have br : 0 ≤ ((rd y s) : Int) := oda
                         have bt : (rd y s) < (G.length : Int) := oda
                         obtain ⟨cz, cA, bu⟩ := Kd.at_int (Kd.R_reads' D.out).2.2 (rd y s) br bt
                         obtain rfl : (⟨M, 0, none⟩ : Addr) = cz := (by injection cA)
                         (first | simp only [add_plain] at bu | simp only [add_at] at bu | simp only [Addr.add, Nat.zero_add] at bu | skip)
                         replace br := eq_true br
                         replace bt := eq_true bt
                         have bv : 0 ≤ ((rd (rd_L9 l0 (rd y s)) z) : Int) := oda
                         have bw : ((rd (rd_L9 l0 (rd y s)) z) : Int) < ((G.length : Int) : Int) := oda
                         obtain ⟨dc, dd⟩ := Kd.R_celln 0 D.out ((rd (rd_L9 l0 (rd y s)) z) : Int) bv bw
                         replace bv := eq_true bv
                         replace bw := eq_true bw
                         have bz := Kd.R_putg D.out ((rd (rd_L9 l0 (rd y s)) z) : Int) (wrap64 ((rd G (rd y s)) + 1))
                         go_wp2_with (first | ((with_reducible refine gate_store (t := 3) (p := 61) rfl ?_); refine store_event (t := 3) (p := 61) (v := ?vo_w37) (w1 := (wr.setCell ⟨M, ((rd (rd_L9 l0 (rd y s)) z) : Int).toNat, none⟩ (.int .i64 (wrap64 ((rd G (rd y s)) + 1))))) ?hg ?ho ?hn ?hr ?_; (case ho => rfl); (case hg => rfl); (case hn => rfl); (case hr => first | (go_simp; done) | (go_simp; rfl)); intro bA hw; have hg : wr.grownBy bA (some M) := (by rw [hw]; exact bz.2); have hp_ : Kd.R (Kd.int .i64) 3 bA w.heap.size (fun k_ => some k_ ≠ (u8 : Value).ownBlock) (.slice (some ⟨M, 0, none⟩) G.length Z) aW := (by rw [hw, ct.out]; exact bz.1); clear bz; replace D := am hp_; replace T := am (Kd.R_after (v := (.slice (some ⟨M, 0, none⟩) G.length Z)) (v1 := (.slice (some ⟨M, 0, none⟩) G.length Z)) (ok := (fun _ => True)) (by (with_reducible repeat (first | apply Kd.R_alloc | apply Kd.R_drewN | apply Kd.R_drew)); exact Kd.R_mono T.out (fun _ hk => ⟨trivial, hk⟩)) hg (.inl rfl)); replace HB := am ((by rw [hw]; exact below_set (HB.out) bS.out : Below w.heap.size w bA)); clear hg hw hp_) | ((with_reducible refine gate_builtin (b := .append) (xs := #[.tmp 62, .tmp 64]) rfl ?_); at_builtin; refine Kd.R_append (Kd.int .i64) (w0 := w) w.heap.size rfl (.tmp 62) (.tmp 64) 43 3 (.int .i64 0) 8 rfl Try.underlying43 info3 rfl (by decide) (by omega) u8 aa (rd (rd_L9 l0 (rd y s)) z) [.int .i64 (rd (rd_L9 l0 (rd y s)) z)] (fun k_ => some k_ ≠ (.slice (some ⟨M, 0, none⟩) G.length Z : Value).ownBlock) (fun _ => False) rfl rfl ?aP (fun _ hk => hk.elim) ?aF ?aO ?aB ?aS ?aL ?_; (case aP => exact rfl); (case aB => exact (bs HB.out)); (case aF => exact (fun k_ hk => Kd.fresh' (rk D) k_ hk)); (case aO => exact (by (with_reducible repeat (first | apply Kd.R_alloc | apply Kd.R_drewN | apply Kd.R_drew)); exact Kd.R_mono T.out (fun _ hk => hk.2))); (case aS => exact (below_size (bs HB.out))); (case aL => have := cu.out; omega); intro de df ho hb hg hat; rw [← cv.out] at ho; replace D := am (Kd.R_after (ok := (fun _ => True)) (by (with_reducible repeat (first | apply Kd.R_alloc | apply Kd.R_drewN | apply Kd.R_drew)); exact Kd.R_mono D.out (fun _ hk => ⟨trivial, hk⟩)) hg hat); replace HB := am hb; have cB := am ho; clear T; clear ho hb hg hat))
                         (try simp only [← hl6_3])
                         go_roundg k3
                         case measure => have := ac.out; have := av.out; have := aw.out; omega
                         case rel => exact ⟨(aW), (bW), (wrap64 (z + 1)), eqs, H', ⟨by have := ac.out; have := av.out; have := aw.out; omega⟩, ⟨by (try simp only [hl6_1]); (try simp only [hl6_2]); (try simp only [hl6_3]); (with_reducible repeat (first | apply Kd.R_alloc | apply Kd.R_drewN | apply Kd.R_drew)); exact Kd.R_mono D.out (fun _ hk => hk.2)⟩, ⟨by (try simp only [hl6_1]); (try simp only [hl6_2]); (try simp only [hl6_3]); (with_reducible repeat (first | apply Kd.R_alloc | apply Kd.R_drewN | apply Kd.R_drew)); exact cB.out⟩, ⟨bs HB.out⟩⟩
                        ·rw [if_neg aX] at H
                         exact absurd H (by simp)
                       ·rw [if_neg aV] at H
                        exact absurd H (by simp)
                      ·rw [if_neg aU] at H
                       exact absurd H (by simp)
                     ·rw [if_neg ay] at H
                      have cp : decide ((rd G (rd (rd_L9 l0 (rd y s)) z)) < 0) = false := decide_eq_false ay
                      clear ay
                      have H' := am H
                      clear H
                      have ai : 0 ≤ (z : Int) := oda
                      have aj : z < ((rd_L9 l0 (rd y s)).length : Int) := oda
                      obtain ⟨cy, bm, aG⟩ := Kd.at_int bV.out z ai aj
                      cases bm
                      replace aG := cb HB aG
                      replace ai := eq_true ai
                      replace aj := eq_true aj
                      have ak : 0 ≤ ((rd (rd_L9 l0 (rd y s)) z) : Int) := oda
                      have al : (rd (rd_L9 l0 (rd y s)) z) < (G.length : Int) := oda
                      obtain ⟨bn, bo, an⟩ := Kd.at_int (Kd.R_reads' D.out).2.2 (rd (rd_L9 l0 (rd y s)) z) ak al
                      obtain rfl : (⟨M, 0, none⟩ : Addr) = bn := (by injection bo)
                      (first | simp only [add_plain] at an | simp only [add_at] at an | simp only [Addr.add, Nat.zero_add] at an | skip)
                      replace ak := eq_true ak
                      replace al := eq_true al
                      go_wp2
                      (try simp only [← hl6_3])
                      go_roundg k3
                      case measure => have := ac.out; have := av.out; have := aw.out; omega
                      case rel => exact ⟨(G), (aa), (wrap64 (z + 1)), eqs, H', ⟨by have := ac.out; have := av.out; have := aw.out; omega⟩, ⟨by (try simp only [hl6_1]); (try simp only [hl6_2]); (try simp only [hl6_3]); (with_reducible repeat (first | apply Kd.R_alloc | apply Kd.R_drewN | apply Kd.R_drew)); exact D.out⟩, ⟨by (try simp only [hl6_1]); (try simp only [hl6_2]); (try simp only [hl6_3]); (with_reducible repeat (first | apply Kd.R_alloc | apply Kd.R_drewN | apply Kd.R_drew)); exact T.out⟩, ⟨bs HB.out⟩⟩
                    ·rw [if_neg aT] at H
                     exact absurd H (by simp)
                   ·rw [if_neg aR] at H
                    exact absurd H (by simp)
                  ·rw [if_neg aQ] at H
                   exact absurd H (by simp)
                 ·rw [if_neg aN] at H
                  exact absurd H (by simp)
                ·rw [if_neg ax] at H
                 have co : decide (z < ((rd_L9 l0 (rd y s)).length : Int)) = false := decide_eq_false ax
                 clear ax
                 have H' := am H
                 clear H
                 go_wp2
                 (try simp only [← hl6_2, ← hl6_3])
                 go_roundg k3
                 case measure => have := ac.out; have := av.out; have := aw.out; omega
                 case rel => exact ⟨(G), (aa), (wrap64 (s + 1)), eqs, H', ⟨by have := ac.out; have := av.out; have := aw.out; omega⟩, ⟨by (try simp only [hl6_1]); (try simp only [hl6_2]); (try simp only [hl6_3]); (with_reducible repeat (first | apply Kd.R_alloc | apply Kd.R_drewN | apply Kd.R_drew)); exact D.out⟩, ⟨by (try simp only [hl6_1]); (try simp only [hl6_2]); (try simp only [hl6_3]); (with_reducible repeat (first | apply Kd.R_alloc | apply Kd.R_drewN | apply Kd.R_drew)); exact T.out⟩, ⟨bs HB.out⟩⟩
             ·rw [if_neg aE] at H
              exact absurd H (by simp)
            ·rw [if_neg aD] at H
             exact absurd H (by simp)
           ·rw [if_neg aC] at H
            exact absurd H (by simp)
          ·rw [if_neg ah] at H
           have bU : decide (s < (y.length : Int)) = false := decide_eq_false ah
           clear ah
           simp only [Option.some.injEq, Prod.mk.injEq] at H
           obtain ⟨rfl, rfl⟩ := H
           obtain ⟨dg, dh, cC⟩ := Kd.R_slice T.out
           subst cC
           go_wp2
           go_ret2
           exact ⟨_, _, eqr, by (with_reducible repeat (first | apply Kd.R_alloc | apply Kd.R_drewN | apply Kd.R_drew)); exact D.out, by (with_reducible repeat (first | apply Kd.R_alloc | apply Kd.R_drewN | apply Kd.R_drew)); exact T.out, bs HB.out⟩
       ·rw [if_neg aq] at H
        exact absurd H (by simp)
      ·rw [if_neg ap] at H
       exact absurd H (by simp)
  ·rw [if_neg c4] at H
   exact absurd H (by simp)
 ·rw [if_neg c3] at H
  exact absurd H (by simp)

end Go.Proofs.Ytohmemckdogljaa.QFnExactWalkDist
