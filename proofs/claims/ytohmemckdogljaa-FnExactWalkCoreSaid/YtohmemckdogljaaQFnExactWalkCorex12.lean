/- Contracts of the Go functions that this law reaches: each does what its plain Lean function says. No condition. -/
import Derived.Test.YtohmemckdogljaaQFnExactWalkCorex0
import Derived.Test.YtohmemckdogljaaQFnExactWalkCorex11
namespace Go.Proofs.Ytohmemckdogljaa.QFnExactWalkCore
open Go.RowKit Go.Proofs.YtohmemckdogljaaW.PrintWords Go.Proofs.YtohmemckdogljaaW.PrintLast Go.Proofs.YtohmemckdogljaaW.PrintMore Go.Proofs.Ytohmemckdogljaa.Bl
attribute [local go_sem] max2_int min2_int max_two min_two max_three min_three max_four min_four   -- for this text's walks alone
set_option linter.unusedVariables false
set_option linter.unusedSimpArgs false
set_option maxHeartbeats 8000000
set_option maxRecDepth 100000

/-! ### impl_nearPlaces: function 68 -/
mutual
def impl_nearPlaces.l0 : Nat → List (List Int) → List (S36) → Int → Int → List (S36) → List (S56) → Option ((List (List Int)))
 | 0, _, _, _, _, _, _ => none
 | k + 1, z, y, D, s, G, I => if s < D then (if 0 ≤ s then (if s < (y.length : Int) then ((impl_GraphNear.f k G I ((rd_T36 y s).f0) ((rd_T36 y s).f1)).bind fun J => (impl_nearPlaces.l1 k z s y D s J (J.length : Int) 0 G I)) else (none)) else (none)) else (some z)
def impl_nearPlaces.l1 : Nat → List (List Int) → Int → List (S36) → Int → Int → List (S36) → Int → Int → List (S36) → List (S56) → Option ((List (List Int)))
 | 0, _, _, _, _, _, _, _, _, _, _ => none
 | k + 1, z, s, J, L, M, D, O, y, G, I => if y < O then (if 0 ≤ y then (if y < (D.length : Int) then (if 0 ≤ s then (if s < (z.length : Int) then ((impl_nodePlace.f k G I ((rd_T36 D y).f0) ((rd_T36 D y).f1)).bind fun T => (if (rd_L9 z s).length < 17592186044416 then (impl_nearPlaces.l1 k (z.set (s : Int).toNat ((rd_L9 z s) ++ [T])) s J L M D O (wrap64 (y + 1)) G I) else (none))) else (none)) else (none)) else (none)) else (none)) else (impl_nearPlaces.l0 k z J L (wrap64 (M + 1)) G I)
end
def impl_nearPlaces.f (k : Nat) (s : List (S36)) (y : List (S56)) : Option ((List (List Int))) := if 0 ≤ (s.length : Int) then (if ((s.length : Int) : Int).toNat ≤ 11728124029610 then (impl_nearPlaces.l0 k (List.replicate ((s.length : Int) : Int).toNat []) s (s.length : Int) 0 s y) else (none)) else (none)
def impl_nearPlaces.T8 : Bool × List (List Nat × List Nat) := (true, [([], []), ([], []), ([], []), ([], []), ([2, 3], [2, 3]), ([4], [4]), ([], []), ([], []), ([6, 7], [6, 7]), ([8], [8]), ([5, 9, 8], [5, 9]), ([0, 1, 0, 1, 2, 3, 4, 5, 6, 7, 8, 9, 10], [0, 1]), ([11, 10, 10, 0, 1, 2, 3, 4, 5, 6, 7, 8, 9, 10], [10, 11])])
def impl_nearPlaces.B8 : List Nat := [0, 0, 0, 0, 12, 28, 0, 0, 192, 448, 1020, 2047, 4095]
theorem impl_nearPlaces.tab8 : rtab .any (opsOf Try.f68 8) = impl_nearPlaces.T8 := by kernel_rfl
theorem impl_nearPlaces.bits8 : waitsOk impl_nearPlaces.T8.2 impl_nearPlaces.B8 = true := by kernel_rfl
theorem impl_nearPlaces.calls (k : Nat) (aq : Option Addr) (Z : Nat) (z : List (S36)) (aa : Option Addr) (ab : Nat) (X : List (S56)) (r : List (List Int)) (w : World) (bj : Kd.C k36 w aq z.length z) (bk : z.length ≤ Z) (bl : Kd.C k56 w aa X.length X) (bm : X.length ≤ ab) (h : impl_nearPlaces.f k z X = some r) :
  Calls Try.prog 68 #[.agg #[.slice aq z.length Z, .slice aa X.length ab]] w fun e w' => ∃ bn : Value, e = .returned (bn) ∧ Kd.S (Kd.slice 3 (Kd.int .i64)) 43 w' w.heap.size (fun _ => True) bn r ∧ Below w.heap.size w w' := by
 have hu34 := Try.underlying34
 have hu36 := Try.underlying36
 have aN := am bj
 have bo := am bk
 clear bj bk
 have br := am bl
 have bt := am bm
 clear bl bm
 have HB := am (Below.refl w.heap.size w)
 have H := h; unfold impl_nearPlaces.f at H
 clear h
 by_cases c2 : 0 ≤ (z.length : Int)
 ·rw [if_pos c2] at H
  have bu := eq_true c2
  have bv : decide (0 ≤ (z.length : Int)) = true := decide_eq_true c2
  clear c2
  by_cases c3 : ((z.length : Int) : Int).toNat ≤ 11728124029610
  ·rw [if_pos c3] at H
   have bw := eq_true c3
   have bz : decide (((z.length : Int) : Int).toNat ≤ 11728124029610) = true := decide_eq_true c3
   clear c3
   obtain ⟨bA, aQ⟩ : ∃ y_ : List (List Int), y_ = (List.replicate ((z.length : Int) : Int).toNat []) := ⟨_, rfl⟩
   replace H : (impl_nearPlaces.l0 k bA z (z.length : Int) 0 z X) = some r := by first | (rw [aQ]; exact H) | exact H
   have bB := am aQ
   clear aQ
   have H' := am H
   clear H
   go_enter Try.func68, Try.ntmps68
   go_wp2_with (first | ((with_reducible refine gd 1 rfl ?_); refine bx 1 (cs := #[.slice aq z.length Z, .slice aa X.length ab]) (t := 34) ?_; intro ad hg w4 hbox hb; have I := am hbox; have b6 := gwb HB hg; replace HB := hs HB hb; clear hb hbox hg; obtain ⟨bC, bD⟩ := bc2 (w := w4) I.out; have bE := blk_frozen I.out) | ((with_reducible refine gd 11 rfl ?_); refine Kd.S_make (Kd.slice 3 (Kd.int .i64)) _ 43 rfl (N := 11) rfl 84 _ _ rfl (z.length : Int) rfl rfl Try.underlying84 (.slice none 0 0) 24 info43 rfl (by decide) (by omega) [] (ok := fun _ => True) (okp := fun _ => True) ⟨_, rfl, Kd.R_nil _ _ _ _ _⟩ (fun _ hk => hk) trivial (oda) (Nat.le_trans (Nat.mul_le_mul_right _ (oda : (z.length : Int).toNat ≤ 11728124029610)) (by omega)) (Below.refl _ _) (Nat.le_refl _) ?_; intro aR w6 ah hb hg_ hnew_; clear hg_ hnew_; (first | rw [← bB.out] at ah | (simp only [Int.reduceToNat] at ah; rw [← bB.out] at ah)); have b7 := am (Kd.S_lower ah (below_size (bs HB.out))); replace I := bb I hb rfl; replace HB := hs HB hb; clear hb ah; obtain ⟨bF, bG⟩ := bc2 (w := w6) I.out; have bH := blk_frozen I.out))
   go_loopg [15] k (fun kq b8 w' => ∃ (ar : List (List Int)) (s : Int), b8 = .int .i64 s ∧ Aside0 (impl_nearPlaces.l0 kq ar z (z.length : Int) s z X = some r) ∧ Aside0 (kq ≤ k) ∧ Aside0 (Kd.S (Kd.slice 3 (Kd.int .i64)) 43 w' w.heap.size (fun _ => True) aR ar) ∧ Aside0 (w'.heap[ad]? = some (.cells #[(.slice aq z.length Z), (.slice aa X.length ab)] 34 (0, 0))) ∧ Aside0 (Below w.heap.size w w'))
   case atStart => exact ⟨(bA), (0), eqs, H', ⟨Nat.le_refl _⟩, ⟨by (with_reducible repeat (first | apply Kd.S_alloc | apply Kd.S_drewN | apply Kd.S_drew)); exact b7.out⟩, ⟨bf I.out⟩, ⟨bs HB.out⟩⟩
   case round =>
    clear H'
    try clear c2
    try clear bu
    try clear bv
    try clear p2
    try clear c3
    try clear bw
    try clear bz
    try clear c6
    try clear bC bD
    try clear bF bG
    try clear bE
    try clear bH
    obtain ⟨ar, s, rfl, HA, au, J, I, HB⟩ := hrel
    cases gk with
    | zero => exact absurd HA.out (by simp [impl_nearPlaces.l0])
    | succ k1 =>
     have H := HA.out
     clear HA
     simp only [impl_nearPlaces.l0] at H
     by_cases c9 : s < (z.length : Int)
     ·rw [if_pos c9] at H
      have bI : decide (s < (z.length : Int)) = true := decide_eq_true c9
      clear c9
      by_cases ai : 0 ≤ s
      ·rw [if_pos ai] at H
       have b9 : decide (0 ≤ s) = true := decide_eq_true ai
       clear ai
       by_cases aj : s < (z.length : Int)
       ·rw [if_pos aj] at H
        have ce : decide (s < (z.length : Int)) = true := decide_eq_true aj
        clear aj
        replace H := Option.bind_eq_some_iff.mp H
        obtain ⟨D, bJ, H⟩ := H
        try dsimp -simprocs only at H
        have cf := am bJ
        clear bJ
        have H' := am H
        clear H
        have av : 0 ≤ (s : Int) := oda
        have aw : s < (z.length : Int) := oda
        obtain ⟨af, cg, aT, aU⟩ := at_T36 aN.out s av aw
        cases cg
        replace aT := cb HB aT
        replace aU := cb HB aU
        replace av := eq_true av
        replace aw := eq_true aw
        go_wp2_with (first | ((with_reducible refine gd 5 rfl ?_); refine bx 5 (cs := #[.int .i64 0, .int .i64 0]) (t := 36) ?_; intro ac hg bK hbox hb; replace J := am (Kd.S_below (by (with_reducible repeat (first | apply Kd.S_alloc | apply Kd.S_drewN | apply Kd.S_drew)); exact J.out) hb); have M := am hbox; have ch := gwb HB hg; replace HB := hs HB hb; have ci := nq I hg; have cj := nq' I hg; replace I := bb I hb rfl; clear hb hbox hg; have cT := cj.out; have cU := ci.out; obtain ⟨ck, cl⟩ := bc2 (w := bK) M.out; have cm := blk_frozen M.out; obtain ⟨cn, co⟩ := bc2 (w := bK) I.out; have cp := blk_frozen I.out) | ((with_reducible refine gc 55 rfl ?_); refine gl 22 Try.func55 #[.agg #[.slice (some af) z.length Z, .slice aa X.length ab], .agg #[.int .i64 ((rd_T36 z s).f0), .int .i64 ((rd_T36 z s).f1)]] ?_; (with_reducible refine (impl_GraphNear.calls k1 _ _ z _ _ X ((rd_T36 z s).f0) ((rd_T36 z s).f1) D _ ?aV ?aW ?aX ?aY cf.out).mono ?_); (case aV => exact Kd.C_below aN.out (bs HB.out)); (case aW => exact bo.out); (case aX => exact Kd.C_below br.out (bs HB.out)); (case aY => exact bt.out); rintro e cV ⟨cW, rfl, bL, hb⟩; refine ⟨_, rfl, ?_⟩; replace J := am (Kd.S_below (by (with_reducible repeat (first | apply Kd.S_alloc | apply Kd.S_drewN | apply Kd.S_drew)); exact (Kd.S_mono (Kd.S_far (p := ⟨ac, 1, none⟩) (Kd.S_far (p := ⟨ac, 0, none⟩) (Kd.S_types J.out M.out (by decide)) (fun _ hk => hk.2) (.int .i64 ((rd_T36 z s).f0))) (fun _ hk => hk.2) (.int .i64 ((rd_T36 z s).f1))) (fun _ h_ => h_.1))) hb); have bM := am (Kd.R_lower (Kd.R_newB bL (g := ac) (o := .cells #[.int .i64 ((rd_T36 z s).f0), .int .i64 ((rd_T36 z s).f1)] 36 (0, 0)) (bp M.out rfl)) (below_size (bs HB.out))); replace I := am (blk_below (g := ad) (o := .cells #[.slice (some af) z.length Z, .slice aa X.length ab] 34 (0, 0)) (bf I.out) hb); replace M := bq #[.int .i64 ((rd_T36 z s).f0), .int .i64 ((rd_T36 z s).f1)] M hb; replace HB := hs HB hb; (try clear hb); (try clear hb2); (try clear hk); (try clear hi); (try clear bL); obtain ⟨ct, bN, cu⟩ := Kd.R_slice bM.out; subst cu))
        go_loopg [24] k1 (fun kq cv w' => ∃ (O : List (List Int)) (G : Int), cv = .int .i64 G ∧ Aside0 (impl_nearPlaces.l1 kq O s z (z.length : Int) s D (D.length : Int) G z X = some r) ∧ Aside0 (kq ≤ k1) ∧ Aside0 (Kd.S (Kd.slice 3 (Kd.int .i64)) 43 w' w.heap.size (fun _ => True) aR O) ∧ Aside0 (Kd.R k36 36 w' w.heap.size (fun k_ => k_ ≠ ac) (.slice ct D.length bN) D) ∧ Aside0 (w'.heap[ad]? = some (.cells #[(.slice (some af) z.length Z), (.slice aa X.length ab)] 34 (0, 0))) ∧ Aside0 (w'.heap[ac]? = some (.cells #[.int .i64 ((rd_T36 z s).f0), .int .i64 ((rd_T36 z s).f1)] 36 (0, 0))) ∧ Aside0 (Below w.heap.size w w'))
        case atStart => exact ⟨(ar), (0), eqs, H', ⟨Nat.le_refl _⟩, ⟨by (with_reducible repeat (first | apply Kd.S_alloc | apply Kd.S_drewN | apply Kd.S_drew)); exact J.out⟩, ⟨by (with_reducible repeat (first | apply Kd.R_alloc | apply Kd.R_drewN | apply Kd.R_drew)); exact Kd.R_mono bM.out (fun _ hk => hk.2)⟩, ⟨bf I.out⟩, ⟨bf M.out⟩, ⟨bs HB.out⟩⟩
        case round =>
         clear H'
         try clear c1
         try clear c2
         try clear bu
         try clear bv
         try clear p2
         try clear c3
         try clear bw
         try clear bz
         try clear p3
         try clear q3
         try clear cX
         try clear c5
         try clear c6
         try clear c9
         try clear bI
         try clear ai
         try clear b9
         try clear aj
         try clear ce
         try clear cY
         try clear ck cl
         try clear cn co
         try clear bC bD
         try clear bF bG
         try clear cm
         try clear cp
         try clear bE
         try clear bH
         try clear aT
         try clear aU
         try clear p2
         try clear av
         try clear aw
         obtain ⟨O, G, rfl, HA, ax, J, Y, I, M, HB⟩ := hrel
         cases gk with
         | zero => exact absurd HA.out (by simp [impl_nearPlaces.l1])
         | succ k2 =>
          have H := HA.out
          clear HA
          simp only [impl_nearPlaces.l1] at H
          by_cases ag : G < (D.length : Int)
          ·rw [if_pos ag] at H
           have cy : decide (G < (D.length : Int)) = true := decide_eq_true ag
           clear ag
           by_cases ay : 0 ≤ G
           ·rw [if_pos ay] at H
            have cZ : decide (0 ≤ G) = true := decide_eq_true ay
            clear ay
            by_cases az : G < (D.length : Int)
            ·rw [if_pos az] at H
             have c8 : decide (G < (D.length : Int)) = true := decide_eq_true az
             clear az
             by_cases aA : 0 ≤ s
             ·rw [if_pos aA] at H
              have da : decide (0 ≤ s) = true := decide_eq_true aA
              clear aA
              by_cases aC : s < (O.length : Int)
              ·rw [if_pos aC] at H
               have db : decide (s < (O.length : Int)) = true := decide_eq_true aC
               clear aC
               replace H := Option.bind_eq_some_iff.mp H
               obtain ⟨aD, bO, H⟩ := H
               try dsimp -simprocs only at H
               have cz := am bO
               clear bO
               by_cases aE : (rd_L9 O s).length < 17592186044416
               ·rw [if_pos aE] at H
                have cA := am aE
                clear aE
                obtain ⟨ak, aZ⟩ : ∃ y_ : List Int, y_ = ((rd_L9 O s) ++ [aD]) := ⟨_, rfl⟩
                replace H : (impl_nearPlaces.l1 k2 (O.set (s : Int).toNat ak) s z (z.length : Int) s D (D.length : Int) (wrap64 (G + 1)) z X) = some r := by first | (rw [aZ]; exact H) | exact H
                have cB := am aZ
                clear aZ
                obtain ⟨bP, a3⟩ : ∃ y_ : List (List Int), y_ = (O.set (s : Int).toNat ak) := ⟨_, rfl⟩
                replace H : (impl_nearPlaces.l1 k2 bP s z (z.length : Int) s D (D.length : Int) (wrap64 (G + 1)) z X) = some r := by first | (rw [a3]; exact H) | exact H
                have cC := am a3
                clear a3
                have H' := am H
                clear H
                have a4 : 0 ≤ (G : Int) := oda
                have a5 : G < (D.length : Int) := oda
                obtain ⟨cD, cE, dc, dd⟩ := at_T36 (Kd.R_reads' Y.out).2.2 G a4 a5
                cases cE
                replace a4 := eq_true a4
                replace a5 := eq_true a5
                try go_wp2_with (first | ((with_reducible refine gd 7 rfl ?_); refine bx 7 (cs := #[.int .i64 0, .int .i64 0]) (t := 36) ?_; intro L hg ae hbox hb; replace J := am (Kd.S_below (by (with_reducible repeat (first | apply Kd.S_alloc | apply Kd.S_drewN | apply Kd.S_drew)); exact J.out) hb); replace Y := am (Kd.R_below (Kd.R_elderB (rl Y.out) L (Nat.le_of_eq hg.symm)) hb); have T := am hbox; have cF := gwb HB hg; replace HB := hs HB hb; have cG := nq I hg; have cH := nq' I hg; replace I := bb I hb rfl; have cI := nq M hg; have cJ := nq' M hg; replace M := bb M hb rfl; clear hb hbox hg; have de := cH.out; have df := cG.out; have dg := cJ.out; have dh := cI.out; obtain ⟨di, dj⟩ := bc2 (w := ae) T.out; have dk := blk_frozen T.out))
                have a6 : Aside0 (Kd.S (Kd.slice 3 (Kd.int .i64)) 43 ((ae.setCell ⟨L, 0, none⟩ (.int .i64 ((rd_T36 D G).f0))).setCell ⟨L, 1, none⟩ (.int .i64 ((rd_T36 D G).f1))) w.heap.size (fun _ => True) aR O) := ⟨by (with_reducible repeat (first | apply Kd.S_alloc | apply Kd.S_drewN | apply Kd.S_drew)); exact Kd.S_mono (Kd.S_far (p := ⟨L, 1, none⟩) (Kd.S_far (p := ⟨L, 0, none⟩) (Kd.S_types J.out T.out (by decide)) (fun _ hk => hk.2) (.int .i64 ((rd_T36 D G).f0))) (fun _ hk => hk.2) (.int .i64 ((rd_T36 D G).f1))) (fun _ hk => trivial)⟩
                have a7 : Aside0 (Kd.R k36 36 ((ae.setCell ⟨L, 0, none⟩ (.int .i64 ((rd_T36 D G).f0))).setCell ⟨L, 1, none⟩ (.int .i64 ((rd_T36 D G).f1))) w.heap.size (fun k_ => k_ ≠ ac ∧ k_ ≠ L) (.slice (some cD) D.length bN) D) := ⟨by (with_reducible repeat (first | apply Kd.R_alloc | apply Kd.R_drewN | apply Kd.R_drew)); exact Kd.R_mono (Kd.R_far (p := ⟨L, 1, none⟩) (Kd.R_far (p := ⟨L, 0, none⟩) (Kd.R_mono Y.out (fun k_ hk => (⟨hk, hk.2⟩ : _ ∧ k_ ≠ L))) (fun _ hk => hk.2) (.int .i64 ((rd_T36 D G).f0))) (fun _ hk => hk.2) (.int .i64 ((rd_T36 D G).f1))) (fun _ hk => ⟨hk.1.1, hk.1.2⟩)⟩
                have a8 : Aside0 (((ae.setCell ⟨L, 0, none⟩ (.int .i64 ((rd_T36 D G).f0))).setCell ⟨L, 1, none⟩ (.int .i64 ((rd_T36 D G).f1))).heap[ad]? = some (.cells #[.slice (some af) z.length Z, .slice aa X.length ab] 34 (0, 0))) := ⟨bf I.out⟩
                have a9 : Aside0 (((ae.setCell ⟨L, 0, none⟩ (.int .i64 ((rd_T36 D G).f0))).setCell ⟨L, 1, none⟩ (.int .i64 ((rd_T36 D G).f1))).heap[ac]? = some (.cells #[.int .i64 ((rd_T36 z s).f0), .int .i64 ((rd_T36 z s).f1)] 36 (0, 0))) := ⟨bf M.out⟩
                have ba : Aside0 (((ae.setCell ⟨L, 0, none⟩ (.int .i64 ((rd_T36 D G).f0))).setCell ⟨L, 1, none⟩ (.int .i64 ((rd_T36 D G).f1))).heap[L]? = some (.cells #[.int .i64 ((rd_T36 D G).f0), .int .i64 ((rd_T36 D G).f1)] 36 (0, 0))) := ⟨by (with_reducible repeat (first | refine blk_drewN ?_ _ | refine blk_drew ?_ | refine blk_alloc ?_ _)); refine blk_put (cs := #[.int .i64 ((rd_T36 D G).f0), .int .i64 0]) ?_ 1 _ rfl; (with_reducible repeat (first | refine blk_drewN ?_ _ | refine blk_drew ?_ | refine blk_alloc ?_ _)); refine blk_put (cs := #[.int .i64 0, .int .i64 0]) ?_ 0 _ rfl; exact bf T.out⟩
                have bc : Aside0 (Below w.heap.size w ((ae.setCell ⟨L, 0, none⟩ (.int .i64 ((rd_T36 D G).f0))).setCell ⟨L, 1, none⟩ (.int .i64 ((rd_T36 D G).f1)))) := ⟨bs HB.out⟩
                (try clear J)
                (try clear Y)
                (try clear I)
                (try clear M)
                (try clear T)
                (try clear HB)
                generalize ((ae.setCell ⟨L, 0, none⟩ (.int .i64 ((rd_T36 D G).f0))).setCell ⟨L, 1, none⟩ (.int .i64 ((rd_T36 D G).f1))) = cK at a6 a7 a8 a9 ba bc ⊢
                have J := a6
                have Y := a7
                have I := a8
                have M := a9
                have T := ba
                have HB := bc
                clear a6 a7 a8 a9 ba bc
                replace J := am (Kd.S_drew J.out)
                replace Y := rd_ Y
                replace I := bd I
                replace M := bd M
                replace T := bd T
                replace HB := hd HB
                obtain ⟨dl, dm, bQ⟩ := Kd.S_slice J.out
                (first | subst bQ | (injection bQ with al be an; have bg := al.symm; have bh := an.symm; clear al be an; subst bg; subst bh))
                have aG : 0 ≤ (s : Int) := oda
                have aH : s < (O.length : Int) := oda
                obtain ⟨cL, aI, aJ, cM, ao, hl340_0, hi340_0⟩ := at_L9 (Kd.S_reads' J.out).2.2 s aG aH
                cases cM
                obtain ⟨dp, hce340, hMe340, bR⟩ := Kd.S_get J.out [] s aG (by first | exact aH | exact oda | (have e_ := (Kd.S_reads' J.out).1; omega))
                obtain ⟨ve340_0, rfl, ge340_0⟩ := hMe340
                have hv340_0 := bR 0 _ rfl
                rw [Nat.add_zero, show ((Kd.slice 3 (Kd.int .i64))).sz = 1 from rfl, Nat.mul_one] at hv340_0
                replace hv340_0 := Option.some.inj (hv340_0.symm.trans ao)
                rw [hv340_0] at ge340_0
                have HL340_0 := am (show Kd.R (Kd.int .i64) 3 _ _ _ _ (rd_L9 O s) from ge340_0)
                clear hv340_0 ge340_0
                have HX340_0 := am ao
                clear bR hce340
                have aK := am hi340_0
                have dq := am hl340_0
                clear hi340_0 hl340_0
                replace aG := eq_true aG
                replace aH := eq_true aH
                refine sta 13 (fun w' => w'.cell? ⟨ad, 0, none⟩ = some (.slice (some af) z.length Z) ∧ w'.cell? ⟨ad, 1, none⟩ = some (.slice aa X.length ab) ∧ w'.cell? ⟨L, 0, none⟩ = some (.int .i64 ((rd_T36 D G).f0)) ∧ w'.cell? ⟨L, 1, none⟩ = some (.int .i64 ((rd_T36 D G).f1)) ∧ w'.cell? (cL.add (s).toNat) = some (.slice aI (rd_L9 O s).length aJ)) [12] ⟨cx I 0, cx I 1, cx T 0, cx T 1, ao⟩ (fun hHeld => ?_); refine with_tabW impl_nearPlaces.tab8 impl_nearPlaces.bits8 (fun HT_ HW_ => ?_)
                generalize cK.drew = dr at J Y I M T HB HL340_0 aK HX340_0 ao hHeld ⊢
                refine pu 0 28 ?_
                refine pu 1 29 ?_
                refine pu 2 30 ?_
                refine pu 3 31 ?_
                refine pu 4 32 ?_
                refine tk 5 33 ?_
                refine tk 6 34 ?_
                refine tk 7 35 ?_
                refine on 8 36 (fun K hK => ?_)
                refine gs Try.func67 #[.agg #[.slice (some af) z.length Z, .slice aa X.length ab], .agg #[.int .i64 ((rd_T36 D G).f0), .int .i64 ((rd_T36 D G).f1)]] ?_
                with_reducible refine (impl_nodePlace.calls k2 _ _ z _ _ X ((rd_T36 D G).f0) ((rd_T36 D G).f1) aD _ ?aV ?aW ?aX ?aY cz.out).mono ?_
                (case aV => exact Kd.C_below aN.out (bs HB.out))
                (case aW => exact bo.out)
                (case aX => exact Kd.C_below br.out (bs HB.out))
                (case aY => exact bt.out)
                rintro e cN ⟨rfl, hb⟩
                have aM := cw hb hHeld.2.2.2.2
                refine ⟨_, rfl, ?_⟩
                replace J := am (Kd.S_below (by (with_reducible repeat (first | apply Kd.S_alloc | apply Kd.S_drewN | apply Kd.S_drew)); exact J.out) hb)
                replace Y := rb Y hb
                replace HL340_0 := am (Kd.R_below (by (with_reducible repeat (first | apply Kd.R_alloc | apply Kd.R_drewN | apply Kd.R_drew)); exact HL340_0.out) hb)
                replace I := bb I hb rfl
                replace M := bb M hb rfl
                replace T := bb T hb rfl
                replace aK := am (Kd.C_below (by repeat (first | (with_reducible exact aK.out) | (with_reducible refine Kd.C_alloc ?_ _) | (with_reducible refine Kd.C_drewN ?_ _) | (with_reducible refine Kd.C_drew ?_) | exact aK.out)) hb)
                replace HX340_0 := am (pw_cell_below hb HX340_0.out)
                replace HB := hs HB hb
                (try clear hb)
                (try clear hb2)
                (try clear hk)
                (try clear hi)
                obtain ⟨ap, dt, bS, bT, cO, du, bU⟩ := Kd.S_form J.out (by have h_ : (s : Int) < ((O.length : Int) : Int) := oda; have dv : 0 ≤ (s : Int) := (oda); omega)
                (first | cases bS | (injection bS with ea_ en_ ec_; (first | subst ea_ | (injection ea_ with ea_; subst ea_)); subst ec_; clear en_))
                have cP := am bT
                have dw := am bU
                clear bT cO bU
                (first | simp only [add_plain] at ao | skip)
                obtain ⟨oki35, dx, cQ, cR, bV, _, _, hH35⟩ := Kd.S_elem J.out [] (s : Int) (oda) (by have h_ : (s : Int) < ((O.length : Int) : Int) := oda; first | exact h_ | (have e_ := (Kd.S_reads' J.out).1; omega) | simpa using h_)
                obtain ⟨ve35_0, rfl, ge35_0⟩ := cR
                have hv35 := bV 0 _ rfl
                have hX35 := HX340_0.out
                (try simp only [add_plain] at hX35)
                (try simp only [Nat.add_zero] at hv35)
                (try rw [show ((Kd.slice 3 (Kd.int .i64))).sz = 1 from rfl, Nat.mul_one] at hv35)
                replace hv35 := Option.some.inj (hv35.symm.trans hX35)
                subst hv35
                clear hX35 bV cQ
                have UU35 := am (show Kd.R (Kd.int .i64) 3 _ w.heap.size oki35 (.slice aI (rd_L9 O s).length aJ) (rd_L9 O s) from ge35_0)
                have HH35 := am hH35
                have HN35 := am (Kd.S_reads' J.out).1
                clear hH35 ge35_0
                refine hK.out _ _ ⟨cx I 0, cx I 1, cx T 0, cx T 1, aM⟩ (fun hHeld => ?_)
                clear hK K
                refine nrm 36 ?_
                refine on 9 37 (fun K hK => ?_)
                refine va ?_
                refine hK.out _ _ ⟨cx I 0, cx I 1, cx T 0, cx T 1, ca hHeld.2.2.2.2⟩ (fun hHeld => ?_)
                clear hK K
                refine nrm 37 ?_
                refine on 10 38 (fun K hK => ?_)
                refine Kd.R_append_step (Kd.int .i64) (w0 := w) w.heap.size (by rfl) (.tmp 33) (.tmp 37) 43 3 (.int .i64 0) 8 rfl Try.underlying43 info3 rfl (by decide) (by omega) (.slice aI (rd_L9 O s).length aJ) (rd_L9 O s) aD [.int .i64 aD] (fun k_ => oki35 k_ ∨ ((fun _ => True)) k_ ∧ cN.heap.size ≤ k_) (fun _ => False) rfl rfl ?aP (fun _ hk => hk.elim) ?aF ?aO ?aB ?aS ?aL ?_
                (case aP => exact rfl)
                (case aB => exact (bs HB.out))
                (case aF => exact (fun k_ hk => .inr ⟨trivial, hk⟩))
                (case aO => exact (by (with_reducible repeat (first | apply Kd.R_alloc | apply Kd.R_drewN | apply Kd.R_drew)); exact Kd.R_mono UU35.out (fun _ hk => .inl hk)))
                (case aS => exact (below_size (bs HB.out)))
                (case aL => have := cA.out; omega)
                intro dy dz ho hb hg hat
                (first | have aM := Go.Proofs.YtohmemckdogljaaW.PrintWords.cell_grown hg (hHeld.2.2.2.2) (by first | (rw [add_block]; exact (fun e_ => ((HL340_0.out.1 _ e_.symm).2) rfl)) | (show some (Addr.add _ _).block ≠ _; rw [add_block]; exact (fun e_ => ((HL340_0.out.1 _ e_.symm).2) rfl)) | exact (fun e_ => ((HL340_0.out.1 _ e_.symm).2) rfl)) | have aM := Go.Proofs.YtohmemckdogljaaW.PrintWords.cell_grown hg (cell_unalloc (hHeld.2.2.2.2) (by first | (rw [add_block]; exact Kd.S_lt J.out _ rfl) | (show (Addr.add _ _).block < _; rw [add_block]; exact Kd.S_lt J.out _ rfl) | exact Kd.S_lt J.out _ rfl)) (by first | (rw [add_block]; exact (fun e_ => ((HL340_0.out.1 _ e_.symm).2) rfl)) | (show some (Addr.add _ _).block ≠ _; rw [add_block]; exact (fun e_ => ((HL340_0.out.1 _ e_.symm).2) rfl)) | exact (fun e_ => ((HL340_0.out.1 _ e_.symm).2) rfl)))
                rw [← cB.out] at ho
                replace Y := am (Kd.R_over' (v := (.slice aI (rd_L9 O s).length aJ)) (rl Y.out) (Kd.R_typed HL340_0.out) (by decide) hg)
                replace I := am (blk_grown (g := ad) (o := .cells #[.slice (some af) z.length Z, .slice aa X.length ab] 34 (0, 0)) (bf I.out) hg (Kd.R_ne HL340_0.out I.out (by decide)))
                replace M := am (blk_grown (g := ac) (o := .cells #[.int .i64 ((rd_T36 z s).f0), .int .i64 ((rd_T36 z s).f1)] 36 (0, 0)) (bf M.out) hg (Kd.R_ne HL340_0.out M.out (by decide)))
                replace T := am (blk_grown (g := L) (o := .cells #[.int .i64 ((rd_T36 D G).f0), .int .i64 ((rd_T36 D G).f1)] 36 (0, 0)) (bf T.out) hg (Kd.R_ne HL340_0.out T.out (by decide)))
                replace HB := am hb
                replace HH35 := am (Kd.H_grown (Kd.H_widen (by repeat (first | exact HH35.out | refine Kd.H_alloc ?_ _ | refine Kd.H_drewN ?_ _ | refine Kd.H_drew ?_))) hg (fun k_ e_ => .inl (UU35.out.1 k_ e_)))
                have bW := am ho
                clear J UU35 HL340_0
                clear ho hb hg hat
                have bX : 0 ≤ (s : Int) := oda
                have bY : (s : Int) < ((O.length : Int) : Int) := oda
                replace bX := eq_true bX
                replace bY := eq_true bY
                obtain ⟨bZ, b0, b1⟩ := Kd.R_slice bW.out
                (first | subst b1 | (injection b1 with al be an; have bg := al.symm; have bh := an.symm; clear al be an; subst bg; subst bh))
                obtain ⟨_, _, hraw37, _, _, b2, _⟩ := Kd.H_raw HH35.out (oda) (by have h_ : (s : Int) < ((O.length : Int) : Int) := oda; first | exact h_ | (have e_ := (HN35.out); omega) | simpa using h_)
                obtain ⟨_, b3⟩ := Kd.H_at HH35.out (oda) (by have h_ : (s : Int) < ((O.length : Int) : Int) := oda; first | exact h_ | (have e_ := (HN35.out); omega) | simpa using h_)
                have b4 := b2 0 _ rfl
                have b5 := b3 0
                (try simp only [Nat.add_zero] at b4 b5)
                (try rw [show ((Kd.slice 3 (Kd.int .i64))).sz = 1 from rfl, Nat.mul_one] at b4)
                (try rw [show ((Kd.slice 3 (Kd.int .i64))).sz = 1 from rfl, Nat.mul_one] at b5)
                have bi := Kd.S_seg0 HH35.out (oda) (by have h_ : (s : Int) < ((O.length : Int) : Int) := oda; first | exact h_ | (have e_ := (HN35.out); omega) | simpa using h_) (seg := [.slice bZ ak.length b0]) (j := 0) (show 1 ≤ 1 from by decide) (x' := ak) (Kd.M_row bW.out) (fun _ hk => hk)
                (try simp only [show ((Kd.slice 3 (Kd.int .i64))).sz = 1 from rfl, Nat.mul_one, Nat.add_zero] at bi)
                clear b2 b3
                have HNB329_go35 := Nq.mk (show ad ≠ ap from by have h_ := Kd.R_ne hraw37 I.out (by decide); intro e_; exact h_ (by rw [e_]; rfl))
                have HNB334_go35 := Nq.mk (show ac ≠ ap from by have h_ := Kd.R_ne hraw37 M.out (by decide); intro e_; exact h_ (by rw [e_]; rfl))
                have HNB339_go35 := Nq.mk (show L ≠ ap from by have h_ := Kd.R_ne hraw37 T.out (by decide); intro e_; exact h_ (by rw [e_]; rfl))
                have HS37 := bi.1
                rw [← cC.out] at HS37
                have cS := am HS37
                obtain ⟨_, hgg37⟩ := Kd.R_typed hraw37 ap rfl
                have GG37_ := am hgg37
                clear bi HS37 hgg37
                refine hK.out _ _ ⟨cx I 0, cx I 1, cx T 0, cx T 1, aM⟩ (fun hHeld => ?_)
                clear hK K
                refine nrm 38 ?_
                refine pu 11 39 ?_
                refine la0 12 (fun K hK => ?_)
                refine sk ?_
                refine hK.out _ _ ?_
                clear hK K
                refine dn ?_
                try go_wp2
                go_roundg k2
                case measure => have := au.out; have := ax.out; omega
                case rel => exact ⟨(bP), (wrap64 (G + 1)), eqs, H', ⟨by have := au.out; have := ax.out; omega⟩, ⟨by (with_reducible repeat (first | apply Kd.S_alloc | apply Kd.S_drewN | apply Kd.S_drew)); exact cS.out⟩, ⟨by (with_reducible repeat (first | apply Kd.R_alloc | apply Kd.R_drewN | apply Kd.R_drew)); exact Kd.R_mono (Kd.R_far (p := ⟨ap, (s : Int).toNat, none⟩) (Kd.R_types Y.out GG37_.out (by decide)) (fun _ hk => hk.2) (.slice bZ ak.length b0)) (fun _ hk => hk.1.1)⟩, ⟨bf I.out⟩, ⟨bf M.out⟩, ⟨by repeat (first | (with_reducible first | exact HB.out | apply below_alloc | apply pw_below_drewN | apply below_drew1 | refine below_set ?_ cP.out | refine below_set ?_ b6.out | refine below_set ?_ ch.out | refine below_set ?_ cF.out) | exact HB.out)⟩⟩
               ·rw [if_neg aE] at H
                exact absurd H (by simp)
              ·rw [if_neg aC] at H
               exact absurd H (by simp)
             ·rw [if_neg aA] at H
              exact absurd H (by simp)
            ·rw [if_neg az] at H
             exact absurd H (by simp)
           ·rw [if_neg ay] at H
            exact absurd H (by simp)
          ·rw [if_neg ag] at H
           have cy : decide (G < (D.length : Int)) = false := decide_eq_false ag
           clear ag
           have H' := am H
           clear H
           go_wp2
           go_roundg k2
           case measure => have := au.out; have := ax.out; omega
           case rel => exact ⟨(O), (wrap64 (s + 1)), eqs, H', ⟨by have := au.out; have := ax.out; omega⟩, ⟨by (with_reducible repeat (first | apply Kd.S_alloc | apply Kd.S_drewN | apply Kd.S_drew)); exact J.out⟩, ⟨bf I.out⟩, ⟨bs HB.out⟩⟩
       ·rw [if_neg aj] at H
        exact absurd H (by simp)
      ·rw [if_neg ai] at H
       exact absurd H (by simp)
     ·rw [if_neg c9] at H
      have bI : decide (s < (z.length : Int)) = false := decide_eq_false c9
      clear c9
      obtain rfl := Option.some.inj H
      go_wp2
      go_ret
      exact ⟨_, eqr, by (with_reducible repeat (first | apply Kd.S_alloc | apply Kd.S_drewN | apply Kd.S_drew)); exact J.out, bs HB.out⟩
  ·rw [if_neg c3] at H
   exact absurd H (by simp)
 ·rw [if_neg c2] at H
  exact absurd H (by simp)

/-! ### impl_countStays: function 113 -/
def impl_countStays.l0 : Nat → List Bool → Int → List Int → Int → Int → Option (Int)
 | 0, _, _, _, _, _ => none
 | k + 1, z, D, y, G, s => if s < G then (if 0 ≤ s then (if s < (y.length : Int) then (if 0 ≤ (rd y s) then (if (rd y s) < (z.length : Int) then (if rdOf false z (rd y s) = true then (impl_countStays.l0 k z (wrap64 (D + 1)) y G (wrap64 (s + 1))) else (impl_countStays.l0 k z D y G (wrap64 (s + 1)))) else (none)) else (none)) else (none)) else (none)) else (some D)
def impl_countStays.f (k : Nat) (l0 : List Int) (l1 : List Bool) : Option (Int) := impl_countStays.l0 k l1 0 l0 (l0.length : Int) 0
theorem impl_countStays.calls (k : Nat) (A0 : Option Addr) (c0 : Nat) (l0 : List Int) (A1 : Option Addr) (Z : Nat) (l1 : List Bool) (r : Int) (w : World) (ae : Kd.C (Kd.int .i64) w A0 l0.length l0) (af : l0.length ≤ c0) (ag : Kd.C Kd.bool w A1 l1.length l1) (ah : l1.length ≤ Z) (h : impl_countStays.f k l0 l1 = some r) :
  Calls Try.prog 113 #[.slice A0 l0.length c0, .slice A1 l1.length Z] w fun e w' => e = .returned (.int .i64 r) ∧ Drawn0 w w' := by
 have ai := am ae
 have aq := am af
 clear ae af
 have aj := am ag
 have ar := am ah
 clear ag ah
 have H := h; unfold impl_countStays.f at H
 clear h
 have H' := am H
 clear H
 go_enter Try.func113, Try.ntmps113
 go_wp2
 go_loopg [5, 10] k (fun kq v5 ak w' => ∃ (y : Int) (s : Int), v5 = .int .i64 y ∧ ak = .int .i64 s ∧ Aside0 (impl_countStays.l0 kq l1 y l0 (l0.length : Int) s = some r) ∧ Aside0 (kq ≤ k) ∧ Drawn0 w w')
 case atStart => exact ⟨(0), (0), eqs, eqs, H', ⟨Nat.le_refl _⟩, drs⟩
 case round =>
  clear H'
  try clear Z
  try clear p2
  obtain ⟨y, s, rfl, rfl, HA, L, ⟨m1, rfl⟩⟩ := hrel
  cases gk with
  | zero => exact absurd HA.out (by simp [impl_countStays.l0])
  | succ k1 =>
   have H := HA.out
   clear HA
   simp only [impl_countStays.l0] at H
   by_cases J : s < (l0.length : Int)
   ·rw [if_pos J] at H
    have al : decide (s < (l0.length : Int)) = true := decide_eq_true J
    clear J
    by_cases M : 0 ≤ s
    ·rw [if_pos M] at H
     have au : decide (0 ≤ s) = true := decide_eq_true M
     clear M
     by_cases O : s < (l0.length : Int)
     ·rw [if_pos O] at H
      have av : decide (s < (l0.length : Int)) = true := decide_eq_true O
      clear O
      by_cases T : 0 ≤ (rd l0 s)
      ·rw [if_pos T] at H
       have aw : decide (0 ≤ (rd l0 s)) = true := decide_eq_true T
       clear T
       by_cases X : (rd l0 s) < (l1.length : Int)
       ·rw [if_pos X] at H
        have ax : decide ((rd l0 s) < (l1.length : Int)) = true := decide_eq_true X
        clear X
        obtain ⟨bq8, hbq8⟩ : ∃ b_ : Bool, b_ = (rdOf false l1 (rd l0 s)) := ⟨_, rfl⟩
        replace H : (if bq8 = true then (impl_countStays.l0 k1 l1 (wrap64 (y + 1)) l0 (l0.length : Int) (wrap64 (s + 1))) else (impl_countStays.l0 k1 l1 y l0 (l0.length : Int) (wrap64 (s + 1)))) = some r := by rw [← hbq8] at H; exact H
        have Nbq8 := am hbq8
        clear hbq8
        by_cases Y : bq8 = true
        ·subst Y
         replace H : (impl_countStays.l0 k1 l1 (wrap64 (y + 1)) l0 (l0.length : Int) (wrap64 (s + 1))) = some r := by rw [if_pos rfl] at H; exact H
         have H' := am H
         clear H
         have z : 0 ≤ (s : Int) := oda
         have D : s < (l0.length : Int) := oda
         obtain ⟨an, ab, ao⟩ := Kd.at_int ai.out s z D
         cases ab
         replace z := eq_true z
         replace D := eq_true D
         have G : 0 ≤ ((rd l0 s) : Int) := oda
         have I : (rd l0 s) < (l1.length : Int) := oda
         obtain ⟨ap, ac, ad⟩ := Kd.at_bool aj.out (rd l0 s) G I
         (try rw [← Nbq8.out] at ad)
         cases ac
         replace G := eq_true G
         replace I := eq_true I
         go_wp2
         go_roundg k1
         case measure => have := L.out; omega
         case rel => exact ⟨(wrap64 (y + 1)), (wrap64 (s + 1)), eqs, eqs, H', ⟨by have := L.out; omega⟩, drs⟩
        ·replace Y := Bool.eq_false_iff.mpr Y
         subst Y
         have H1 : (impl_countStays.l0 k1 l1 y l0 (l0.length : Int) (wrap64 (s + 1))) = some r := by rw [if_neg (show ¬ (false = true) by decide)] at H; exact H
         clear H
         have H := H1
         clear H1
         have H' := am H
         clear H
         have z : 0 ≤ (s : Int) := oda
         have D : s < (l0.length : Int) := oda
         obtain ⟨an, ab, ao⟩ := Kd.at_int ai.out s z D
         cases ab
         replace z := eq_true z
         replace D := eq_true D
         have G : 0 ≤ ((rd l0 s) : Int) := oda
         have I : (rd l0 s) < (l1.length : Int) := oda
         obtain ⟨ap, ac, ad⟩ := Kd.at_bool aj.out (rd l0 s) G I
         (try rw [← Nbq8.out] at ad)
         cases ac
         replace G := eq_true G
         replace I := eq_true I
         go_wp2
         go_roundg k1
         case measure => have := L.out; omega
         case rel => exact ⟨(y), (wrap64 (s + 1)), eqs, eqs, H', ⟨by have := L.out; omega⟩, drs⟩
       ·rw [if_neg X] at H
        exact absurd H (by simp)
      ·rw [if_neg T] at H
       exact absurd H (by simp)
     ·rw [if_neg O] at H
      exact absurd H (by simp)
    ·rw [if_neg M] at H
     exact absurd H (by simp)
   ·rw [if_neg J] at H
    have al : decide (s < (l0.length : Int)) = false := decide_eq_false J
    clear J
    obtain rfl := Option.some.inj H
    go_wp2
    go_ret
    exact ⟨eqs, drs⟩

/-! ### slices_Index_bool_bool: function 140 -/
def slices_Index_bool_bool.l0 : Nat → List Bool → Bool → Int → Int → Option (Int)
 | 0, _, _, _, _ => none
 | k + 1, y, z, D, s => if s < D then (if 0 ≤ s then (if s < (y.length : Int) then (if (z == (rdOf false y s)) = true then (some s) else (slices_Index_bool_bool.l0 k y z D (wrap64 (s + 1)))) else (none)) else (none)) else (some (-1))
def slices_Index_bool_bool.f (k : Nat) (l0 : List Bool) (s : Bool) : Option (Int) := slices_Index_bool_bool.l0 k l0 s (l0.length : Int) 0
theorem slices_Index_bool_bool.calls (k : Nat) (O : Option Addr) (T : Nat) (l0 : List Bool) (y : Bool) (r : Int) (w : World) (X : Kd.C Kd.bool w O l0.length l0) (Y : l0.length ≤ T) (h : slices_Index_bool_bool.f k l0 y = some r) :
  Calls Try.prog 140 #[.slice O l0.length T, .bool y] w fun e w' => e = .returned (.int .i64 r) ∧ Drawn0 w w' := by
 have Z := am X
 have ai := am Y
 clear X Y
 have H := h; unfold slices_Index_bool_bool.f at H
 clear h
 have H' := am H
 clear H
 go_enter Try.func140, Try.ntmps140
 go_wp2
 go_loopg [8] k (fun kq v8 w' => ∃ (s : Int), v8 = .int .i64 s ∧ Aside0 (slices_Index_bool_bool.l0 kq l0 y (l0.length : Int) s = some r) ∧ Aside0 (kq ≤ k) ∧ Drawn0 w w')
 case atStart => exact ⟨(0), eqs, H', ⟨Nat.le_refl _⟩, drs⟩
 case round =>
  clear H'
  try clear c1
  try clear p2
  obtain ⟨s, rfl, HA, aa, ⟨m1, rfl⟩⟩ := hrel
  cases gk with
  | zero => exact absurd HA.out (by simp [slices_Index_bool_bool.l0])
  | succ k1 =>
   have H := HA.out
   clear HA
   simp only [slices_Index_bool_bool.l0] at H
   by_cases I : s < (l0.length : Int)
   ·rw [if_pos I] at H
    have ac : decide (s < (l0.length : Int)) = true := decide_eq_true I
    clear I
    by_cases J : 0 ≤ s
    ·rw [if_pos J] at H
     have aj : decide (0 ≤ s) = true := decide_eq_true J
     clear J
     by_cases L : s < (l0.length : Int)
     ·rw [if_pos L] at H
      have ak : decide (s < (l0.length : Int)) = true := decide_eq_true L
      clear L
      by_cases z : (y == (rdOf false l0 s)) = true
      ·rw [if_pos z] at H
       have ad : (y == (rdOf false l0 s)) = true := z
       (try (have ae : decide (y = (rdOf false l0 s)) = true := by simpa using z))
       (try (have af : (y == (rdOf false l0 s)) = true := by simpa using z))
       clear z
       obtain rfl := Option.some.inj H
       have D : 0 ≤ (s : Int) := oda
       have G : s < (l0.length : Int) := oda
       obtain ⟨ag, M, ah⟩ := Kd.at_bool Z.out s D G
       cases M
       replace D := eq_true D
       replace G := eq_true G
       go_wp2
       go_ret
       exact ⟨eqs, drs⟩
      ·rw [if_neg z] at H
       have ad : (y == (rdOf false l0 s)) = false := by simpa using z
       (try (have ae : decide (y = (rdOf false l0 s)) = false := by simpa using z))
       (try (have af : (y == (rdOf false l0 s)) = false := by simpa using z))
       (try (have al : ¬ (y = (rdOf false l0 s)) := by simpa using z))
       clear z
       have H' := am H
       clear H
       have D : 0 ≤ (s : Int) := oda
       have G : s < (l0.length : Int) := oda
       obtain ⟨ag, M, ah⟩ := Kd.at_bool Z.out s D G
       cases M
       replace D := eq_true D
       replace G := eq_true G
       go_wp2
       go_roundg k1
       case measure => have := aa.out; omega
       case rel => exact ⟨(wrap64 (s + 1)), eqs, H', ⟨by have := aa.out; omega⟩, drs⟩
     ·rw [if_neg L] at H
      exact absurd H (by simp)
    ·rw [if_neg J] at H
     exact absurd H (by simp)
   ·rw [if_neg I] at H
    have ac : decide (s < (l0.length : Int)) = false := decide_eq_false I
    clear I
    obtain rfl := Option.some.inj H
    go_wp2
    go_ret
    exact ⟨eqs, drs⟩

/-! ### slices_Contains_bool_bool: function 114 -/
def slices_Contains_bool_bool.f (k : Nat) (l0 : List Bool) (s : Bool) : Option (Bool) := (slices_Index_bool_bool.f k l0 s).bind fun y => (some (decide (y ≥ 0)))
theorem slices_Contains_bool_bool.calls (k : Nat) (y : Option Addr) (z : Nat) (l0 : List Bool) (s : Bool) (r : Bool) (w : World) (D : Kd.C Kd.bool w y l0.length l0) (G : l0.length ≤ z) (h : slices_Contains_bool_bool.f k l0 s = some r) :
  Calls Try.prog 114 #[.slice y l0.length z, .bool s] w fun e w' => e = .returned (.bool r) ∧ Drawn0 w w' := by
 have J := am D
 have L := am G
 clear D G
 have H := h; unfold slices_Contains_bool_bool.f at H
 clear h
 replace H := Option.bind_eq_some_iff.mp H
 obtain ⟨M, I, H⟩ := H
 try dsimp -simprocs only at H
 have O := am I
 clear I
 obtain rfl := Option.some.inj H
 go_enter Try.func114, Try.ntmps114
 go_wp2_with (first | ((with_reducible refine gc 140 rfl ?_); refine gl 7 Try.func140 #[.slice y l0.length z, .bool s] ?_; (with_reducible refine (slices_Index_bool_bool.calls k _ _ l0 s M _ ?T ?X O.out).mono ?_); (case T => repeat (first | exact J.out | (with_reducible refine Kd.C_alloc ?_ _) | (with_reducible refine Kd.C_drewN ?_ _) | (with_reducible refine Kd.C_drew ?_))); (case X => exact L.out); rintro e w' ⟨rfl, ⟨nd, rfl⟩⟩; refine ⟨_, rfl, ?_⟩))
 go_ret
 exact ⟨eqs, drs⟩

/-! ### impl_peel: function 74 -/
mutual
def impl_peel.l0 : Nat → List (List Int) → List Bool → Int → Bool → Option (Bool × List Bool)
 | 0, _, _, _, _ => none
 | k + 1, y, s, z, D => if D = true then (impl_peel.l1 k y s z false (y.length : Int) 0) else ((slices_Contains_bool_bool.f k s true).bind fun G => (some (G, s)))
def impl_peel.l1 : Nat → List (List Int) → List Bool → Int → Bool → Int → Int → Option (Bool × List Bool)
 | 0, _, _, _, _, _, _ => none
 | k + 1, z, y, D, I, G, s => if s < G then (if 0 ≤ s then (if s < (y.length : Int) then (if rdOf false y s = true then (if s < (z.length : Int) then ((impl_countStays.f k (rd_L9 z s) y).bind fun J => (if J < D then (impl_peel.l1 k z (y.set (s : Int).toNat false) D true G (wrap64 (s + 1))) else (impl_peel.l1 k z y D I G (wrap64 (s + 1))))) else (none)) else (impl_peel.l1 k z y D I G (wrap64 (s + 1)))) else (none)) else (none)) else (impl_peel.l0 k z y D I)
end
def impl_peel.f (k : Nat) (l0 : List (List Int)) (l1 : List Bool) (s : Int) : Option (Bool × List Bool) := impl_peel.l0 k l0 l1 s true
theorem impl_peel.calls (k : Nat) (A0 : Option Addr) (c0 : Nat) (l0 : List (List Int)) (P1_ : Nat → Prop) (ac : Value) (l1 : List Bool) (D : Int) (J : Bool) (L : List Bool) (w0 w : World) (hB : Below w0.heap.size w0 w) (aC : ∀ W_, Kept w W_ (fun k_ => P1_ k_) → Kd.C (Kd.slice 3 (Kd.int .i64)) W_ A0 l0.length l0) (aD : l0.length ≤ c0) (aW : Kd.R Kd.bool 4 w w0.heap.size P1_ ac l1) (h : impl_peel.f k l0 l1 D = some (J, L)) :
  Calls Try.prog 74 #[.slice A0 l0.length c0, ac, .int .i64 D] w fun e w' => e = .returned (.bool J) ∧ Kd.R Kd.bool 4 w' w0.heap.size (fun k_ => (P1_ k_ ∨ w.heap.size ≤ k_)) ac L ∧ Below w0.heap.size w0 w' ∧ Kept w w' (fun k_ => P1_ k_) := by
 have aE := am aC
 have bk := am aD
 clear aC aD
 have aX := am (show Kd.R Kd.bool 4 w w0.heap.size (fun k_ => (P1_ k_ ∨ w.heap.size ≤ k_)) ac l1 from Kd.R_mono aW (fun k_ hk => (.inl hk)))
 have HK := am (Kept.refl w (fun k_ => P1_ k_))
 have bl := am hB.size
 have HB := am hB
 clear hB
 have H := h; unfold impl_peel.f at H
 clear h
 have H' := am H
 clear H
 go_enter Try.func74, Try.ntmps74
 go_wp2
 go_loopg [7] k (fun kq v7 w' => ∃ (O : List Bool) (aj : Bool), v7 = .bool aj ∧ Aside0 (impl_peel.l0 kq l0 O D aj = some (J, L)) ∧ Aside0 (kq ≤ k) ∧ Aside0 (Kd.R Kd.bool 4 w' w0.heap.size (fun k_ => (P1_ k_ ∨ w.heap.size ≤ k_)) ac O) ∧ Aside0 (Kept w w' (fun k_ => P1_ k_)) ∧ Aside0 (Below w0.heap.size w0 w'))
 case atStart => exact ⟨(l1), (true), eqs, H', ⟨Nat.le_refl _⟩, ⟨rl aX.out⟩, ⟨ts HK.out⟩, ⟨bs HB.out⟩⟩
 case round =>
  clear H'
  try clear p2
  obtain ⟨O, aj, rfl, HA, Y, y, HK, HB⟩ := hrel
  cases gk with
  | zero => exact absurd HA.out (by simp [impl_peel.l0])
  | succ k1 =>
   have H := HA.out
   clear HA
   simp only [impl_peel.l0] at H
   by_cases c4 : aj = true
   ·subst c4
    replace H : (impl_peel.l1 k1 l0 O D false (l0.length : Int) 0) = some (J, L) := by rw [if_pos rfl] at H; exact H
    have H' := am H
    clear H
    go_wp2
    go_loopg [7, 12] k1 (fun kq v7 aY w' => ∃ (z : List Bool) (M : Bool) (s : Int), v7 = .bool M ∧ aY = .int .i64 s ∧ Aside0 (impl_peel.l1 kq l0 z D M (l0.length : Int) s = some (J, L)) ∧ Aside0 (kq ≤ k1) ∧ Aside0 (Kd.R Kd.bool 4 w' w0.heap.size (fun k_ => (P1_ k_ ∨ w.heap.size ≤ k_)) ac z) ∧ Aside0 (Kept w w' (fun k_ => P1_ k_)) ∧ Aside0 (Below w0.heap.size w0 w'))
    case atStart => exact ⟨(O), (false), (0), eqs, eqs, H', ⟨Nat.le_refl _⟩, ⟨rl y.out⟩, ⟨ts HK.out⟩, ⟨bs HB.out⟩⟩
    case round =>
     clear H'
     try clear p2
     try clear c4
     try clear p2
     obtain ⟨z, M, s, rfl, rfl, HA, Z, y, HK, HB⟩ := hrel
     cases gk with
     | zero => exact absurd HA.out (by simp [impl_peel.l1])
     | succ k2 =>
      have H := HA.out
      clear HA
      simp only [impl_peel.l1] at H
      by_cases c5 : s < (l0.length : Int)
      ·rw [if_pos c5] at H
       have aZ : decide (s < (l0.length : Int)) = true := decide_eq_true c5
       clear c5
       by_cases c6 : 0 ≤ s
       ·rw [if_pos c6] at H
        have bm : decide (0 ≤ s) = true := decide_eq_true c6
        clear c6
        by_cases c7 : s < (z.length : Int)
        ·rw [if_pos c7] at H
         have bn : decide (s < (z.length : Int)) = true := decide_eq_true c7
         clear c7
         obtain ⟨bq8, hbq8⟩ : ∃ b_ : Bool, b_ = (rdOf false z s) := ⟨_, rfl⟩
         replace H : (if bq8 = true then (if s < (l0.length : Int) then ((impl_countStays.f k2 (rd_L9 l0 s) z).bind fun T => (if T < D then (impl_peel.l1 k2 l0 (z.set (s : Int).toNat false) D true (l0.length : Int) (wrap64 (s + 1))) else (impl_peel.l1 k2 l0 z D M (l0.length : Int) (wrap64 (s + 1))))) else (none)) else (impl_peel.l1 k2 l0 z D M (l0.length : Int) (wrap64 (s + 1)))) = some (J, L) := by rw [← hbq8] at H; exact H
         have Nbq8 := am hbq8
         clear hbq8
         by_cases c9 : bq8 = true
         ·subst c9
          replace H : (if s < (l0.length : Int) then ((impl_countStays.f k2 (rd_L9 l0 s) z).bind fun T => (if T < D then (impl_peel.l1 k2 l0 (z.set (s : Int).toNat false) D true (l0.length : Int) (wrap64 (s + 1))) else (impl_peel.l1 k2 l0 z D M (l0.length : Int) (wrap64 (s + 1))))) else (none)) = some (J, L) := by rw [if_pos rfl] at H; exact H
          by_cases ak : s < (l0.length : Int)
          ·rw [if_pos ak] at H
           have bo : decide (s < (l0.length : Int)) = true := decide_eq_true ak
           clear ak
           replace H := Option.bind_eq_some_iff.mp H
           obtain ⟨T, aG, H⟩ := H
           try dsimp -simprocs only at H
           have aH := am aG
           clear aG
           by_cases ad : T < D
           ·rw [if_pos ad] at H
            have a3 : decide (T < D) = true := decide_eq_true ad
            clear ad
            obtain ⟨an, ao⟩ : ∃ y_ : List Bool, y_ = (z.set (s : Int).toNat false) := ⟨_, rfl⟩
            replace H : (impl_peel.l1 k2 l0 an D true (l0.length : Int) (wrap64 (s + 1))) = some (J, L) := by first | (rw [ao]; exact H) | exact H
            have a4 := am ao
            clear ao
            have H' := am H
            clear H
            obtain ⟨br, aI, a5⟩ := Kd.R_slice y.out
            subst a5
            have G : 0 ≤ (s : Int) := oda
            have I : s < (z.length : Int) := oda
            obtain ⟨ap, af, ae⟩ := Kd.at_bool (Kd.R_reads' y.out).2.2 s G I
            (try rw [← Nbq8.out] at ae)
            cases af
            replace G := eq_true G
            replace I := eq_true I
            have aa : 0 ≤ (s : Int) := oda
            have ab : s < (l0.length : Int) := oda
            obtain ⟨a6, aJ, a7, aq, a8, hl352_0, hi352_0⟩ := at_L9 (Kd.C_kept_now aE.out HK.out) s aa ab
            cases aq
            have X := am hi352_0
            have ar := am hl352_0
            clear hi352_0 hl352_0
            replace aa := eq_true aa
            replace ab := eq_true ab
            go_wp2_with (first | (go_at_call 113; (with_reducible refine (impl_countStays.calls k2 _ _ (rd_L9 l0 s) _ _ z T _ ?ag ?ah ?au ?av aH.out).mono ?_); (case ag => repeat (first | exact (by repeat (first | (with_reducible exact X.out) | (with_reducible refine Kd.C_alloc ?_ _) | (with_reducible refine Kd.C_drewN ?_ _) | (with_reducible refine Kd.C_drew ?_) | exact X.out)) | (with_reducible refine Kd.C_alloc ?_ _) | (with_reducible refine Kd.C_drewN ?_ _) | (with_reducible refine Kd.C_drew ?_))); (case ah => exact ar.out); (case au => exact cr y); (case av => exact cc y); rintro e w' ⟨rfl, ⟨nd, rfl⟩⟩; (try (rw [drewN_self wr]; generalize hq_ : World.drewN wr _ = wr; have aK : Aside0 (Kd.R Kd.bool 4 wr w0.heap.size (fun k_ => (P1_ k_ ∨ w.heap.size ≤ k_)) (.slice (some ap) z.length aI) z) := ⟨by rw [← hq_]; exact (rl y.out)⟩; have aM : Aside0 (Kept w wr (fun k_ => P1_ k_)) := ⟨by rw [← hq_]; exact (ts HK.out)⟩; have aN : Aside0 (Below w0.heap.size w0 wr) := ⟨by rw [← hq_]; exact (bs HB.out)⟩; have aQ : Aside0 (Kd.C (Kd.int .i64) wr aJ (rd_L9 l0 s).length (rd_L9 l0 s)) := ⟨by rw [← hq_]; exact (by repeat (first | (with_reducible exact X.out) | (with_reducible refine Kd.C_alloc ?_ _) | (with_reducible refine Kd.C_drewN ?_ _) | (with_reducible refine Kd.C_drew ?_) | exact X.out))⟩; clear y HK HB X hq_; have y := aK; have HK := aM; have HB := aN; have X := aQ; clear aK aM aN aQ)); have aw : 0 ≤ (s : Int) := oda; have ax : (s : Int) < ((z.length : Int) : Int) := oda; obtain ⟨ai, bt, aR, aT, a9, bu, aU⟩ := Kd.R_form y.out (by omega); (first | cases aR | (injection aR with ea_ en_ ec_; (first | subst ea_ | (injection ea_ with ea_; subst ea_)); subst ec_; clear en_)); have ba := am aT; have bv := am aU; clear aT a9 aU; have HMgo13 := am (show (P1_ ai ∨ w.heap.size ≤ ai) from (y.out.1 _ rfl)); (first | simp only [add_plain] at ae | skip); obtain ⟨bw, bz⟩ := Kd.R_celln false y.out (s : Int) aw ax; replace aw := eq_true aw; replace ax := eq_true ax; obtain ⟨hy15_, bA⟩ := Kd.R_celln false y.out (s : Int) (oda) (oda); have ay := Kd.R_putg y.out (s : Int) false) | ((with_reducible refine gate_store (t := 4) (p := 31) rfl ?_); refine store_event (t := 4) (p := 31) (v := ?vo_w16) (w1 := (wr.setCell ⟨ai, (s : Int).toNat, none⟩ (.bool false))) ?hg ?ho ?hn ?hr ?_; (case ho => rfl); (case hg => rfl); (case hn => rfl); (case hr => first | (go_simp; done) | (go_simp; rfl)); intro az hw; have hg : wr.grownBy az (some ai) := (by rw [hw]; exact ay.2); have hp_ : Kd.R Kd.bool 4 az w0.heap.size (fun k_ => (P1_ k_ ∨ w.heap.size ≤ k_)) (.slice (some ⟨ai, 0, none⟩) z.length aI) an := (by rw [hw, a4.out]; exact ay.1); clear ay; replace HB := am ((by rw [hw]; exact below_set (HB.out) ba.out : Below w0.heap.size w0 az)); replace HK := am (Kept.of_grown (S := (fun k_ => P1_ k_)) hg (ts HK.out) (fun k_ e_ => (y.out.1 k_ e_))); replace y := am hp_; clear hg hw hp_))
            go_roundg k2
            case measure => have := Y.out; have := Z.out; omega
            case rel => exact ⟨(an), (true), (wrap64 (s + 1)), eqs, eqs, H', ⟨by have := Y.out; have := Z.out; omega⟩, ⟨rl y.out⟩, ⟨ts HK.out⟩, ⟨bs HB.out⟩⟩
           ·rw [if_neg ad] at H
            have a3 : decide (T < D) = false := decide_eq_false ad
            clear ad
            have H' := am H
            clear H
            obtain ⟨bB, bC, bc⟩ := Kd.R_slice y.out
            subst bc
            have G : 0 ≤ (s : Int) := oda
            have I : s < (z.length : Int) := oda
            obtain ⟨ap, af, ae⟩ := Kd.at_bool (Kd.R_reads' y.out).2.2 s G I
            (try rw [← Nbq8.out] at ae)
            cases af
            replace G := eq_true G
            replace I := eq_true I
            have aa : 0 ≤ (s : Int) := oda
            have ab : s < (l0.length : Int) := oda
            obtain ⟨a6, aJ, a7, aq, a8, hl352_0, hi352_0⟩ := at_L9 (Kd.C_kept_now aE.out HK.out) s aa ab
            cases aq
            have X := am hi352_0
            have ar := am hl352_0
            clear hi352_0 hl352_0
            replace aa := eq_true aa
            replace ab := eq_true ab
            go_wp2_with (first | (go_at_call 113; (with_reducible refine (impl_countStays.calls k2 _ _ (rd_L9 l0 s) _ _ z T _ ?ag ?ah ?au ?av aH.out).mono ?_); (case ag => repeat (first | exact (by repeat (first | (with_reducible exact X.out) | (with_reducible refine Kd.C_alloc ?_ _) | (with_reducible refine Kd.C_drewN ?_ _) | (with_reducible refine Kd.C_drew ?_) | exact X.out)) | (with_reducible refine Kd.C_alloc ?_ _) | (with_reducible refine Kd.C_drewN ?_ _) | (with_reducible refine Kd.C_drew ?_))); (case ah => exact ar.out); (case au => exact cr y); (case av => exact cc y); rintro e w' ⟨rfl, ⟨nd, rfl⟩⟩))
            go_roundg k2
            case measure => have := Y.out; have := Z.out; omega
            case rel => exact ⟨(z), (M), (wrap64 (s + 1)), eqs, eqs, H', ⟨by have := Y.out; have := Z.out; omega⟩, ⟨rl y.out⟩, ⟨ts HK.out⟩, ⟨bs HB.out⟩⟩
          ·rw [if_neg ak] at H
           exact absurd H (by simp)
         ·replace c9 := Bool.eq_false_iff.mpr c9
          subst c9
          have H1 : (impl_peel.l1 k2 l0 z D M (l0.length : Int) (wrap64 (s + 1))) = some (J, L) := by rw [if_neg (show ¬ (false = true) by decide)] at H; exact H
          clear H
          have H := H1
          clear H1
          have H' := am H
          clear H
          obtain ⟨bD, bE, be⟩ := Kd.R_slice y.out
          subst be
          have G : 0 ≤ (s : Int) := oda
          have I : s < (z.length : Int) := oda
          obtain ⟨ap, af, ae⟩ := Kd.at_bool (Kd.R_reads' y.out).2.2 s G I
          (try rw [← Nbq8.out] at ae)
          cases af
          replace G := eq_true G
          replace I := eq_true I
          go_wp2
          go_roundg k2
          case measure => have := Y.out; have := Z.out; omega
          case rel => exact ⟨(z), (M), (wrap64 (s + 1)), eqs, eqs, H', ⟨by have := Y.out; have := Z.out; omega⟩, ⟨rl y.out⟩, ⟨ts HK.out⟩, ⟨bs HB.out⟩⟩
        ·rw [if_neg c7] at H
         exact absurd H (by simp)
       ·rw [if_neg c6] at H
        exact absurd H (by simp)
      ·rw [if_neg c5] at H
       have aZ : decide (s < (l0.length : Int)) = false := decide_eq_false c5
       clear c5
       have H' := am H
       clear H
       go_wp2
       go_roundg k2
       case measure => have := Y.out; have := Z.out; omega
       case rel => exact ⟨(z), (M), eqs, H', ⟨by have := Y.out; have := Z.out; omega⟩, ⟨rl y.out⟩, ⟨ts HK.out⟩, ⟨bs HB.out⟩⟩
   ·replace c4 := Bool.eq_false_iff.mpr c4
    subst c4
    have H1 : ((slices_Contains_bool_bool.f k1 O true).bind fun aA => (some (aA, O))) = some (J, L) := by rw [if_neg (show ¬ (false = true) by decide)] at H; exact H
    clear H
    have H := H1
    clear H1
    replace H := Option.bind_eq_some_iff.mp H
    obtain ⟨aA, aV, H⟩ := H
    try dsimp -simprocs only at H
    have bg := am aV
    clear aV
    simp only [Option.some.injEq, Prod.mk.injEq] at H
    obtain ⟨rfl, rfl⟩ := H
    obtain ⟨bh, bi, bj⟩ := Kd.R_slice y.out
    subst bj
    go_wp2_with (first | ((with_reducible refine gc 114 rfl ?_); refine gl 34 Try.func114 #[.slice bh O.length bi, .bool true] ?_; (with_reducible refine (slices_Contains_bool_bool.calls k1 _ _ O true aA _ ?ag ?ah bg.out).mono ?_); (case ag => exact cr y); (case ah => exact cc y); rintro e w' ⟨rfl, ⟨nd, rfl⟩⟩; refine ⟨_, rfl, ?_⟩))
    go_ret
    exact ⟨eqr, by (with_reducible repeat (first | apply Kd.R_alloc | apply Kd.R_drewN | apply Kd.R_drew)); exact y.out, bs HB.out, ts HK.out⟩

end Go.Proofs.Ytohmemckdogljaa.QFnExactWalkCore
