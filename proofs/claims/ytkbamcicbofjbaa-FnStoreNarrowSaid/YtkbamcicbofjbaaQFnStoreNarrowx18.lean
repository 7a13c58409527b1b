/- Contracts of the Go functions that this law reaches: each does what its plain Lean function says. No condition. -/
import Derived.Test.YtkbamcicbofjbaaQFnStoreNarrowx0
import Derived.Test.YtkbamcicbofjbaaQFnStoreNarrowx17
namespace Go.Proofs.Ytkbamcicbofjbaa.QFnStoreNarrow
open Go.RowKit Go.Proofs.YtkbamcicbofjbaaW.PrintWords Go.Proofs.YtkbamcicbofjbaaW.PrintLast Go.Proofs.YtkbamcicbofjbaaW.PrintMore Go.Proofs.Ytkbamcicbofjbaa.Bl
attribute [local go_sem] max2_int min2_int max_two min_two max_three min_three max_four min_four   -- for this text's walks alone
set_option linter.unusedVariables false
set_option linter.unusedSimpArgs false
set_option maxHeartbeats 8000000
set_option maxRecDepth 100000

/-! ### laws_FnStoreNarrow: function 3 -/
mutual
def laws_FnStoreNarrow.j0 : Nat → List Int → List Int → Bool → Option (Bool)
 | 0, _, _, _ => none
 | k + 1, D, G, I => if I = true then (some true) else ((spec_DrawStoreView.f k D).bind fun s => ((spec_DrawStoreView.f k G).bind fun y => ((impl_StoreView.f k s.1 s.2).bind fun z => ((spec_StoreView.f k s.1 s.2).bind fun J => ((impl_StoreSame.f k z J).bind fun L => (if L = true then ((impl_LabelOk.f s.2).bind fun M => (if M = true then ((impl_LabelOk.f y.2).bind fun O => (laws_FnStoreNarrow.j1 k s.1 s.2 y.2 z (!O))) else (laws_FnStoreNarrow.j1 k s.1 s.2 y.2 z true))) else (laws_FnStoreNarrow.j1 k s.1 s.2 y.2 z true)))))))
def laws_FnStoreNarrow.j1 : Nat → List (S42) → Int → Int → List (S42) → Bool → Option (Bool)
 | 0, _, _, _, _, _ => none
 | k + 1, s, z, D, y, G => if G = true then ((spec_StoreView.f k s z).bind fun I => ((impl_StoreSame.f k y I).bind fun J => (some J))) else ((impl_StoreView.f k y D).bind fun L => ((impl_LabelMeet.f z D).bind fun M => ((impl_StoreView.f k s M).bind fun O => ((impl_StoreSame.f k L O).bind fun T => (if T = true then (some (decide ((y.length : Int) ≤ (s.length : Int)))) else (some false))))))
end
def laws_FnStoreNarrow.f (k : Nat) (l0 : List Int) (l1 : List Int) : Option (Bool) := if (l0.length : Int) > 1048576 then (laws_FnStoreNarrow.j0 k l0 l1 true) else (laws_FnStoreNarrow.j0 k l0 l1 (decide ((l1.length : Int) > 1048576)))
theorem laws_FnStoreNarrow.calls (k : Nat) (A0 : Option Addr) (c0 : Nat) (l0 : List Int) (A1 : Option Addr) (c1 : Nat) (l1 : List Int) (r : Bool) (hT : Aside0 (r = true)) (w : World) (aL : Kd.C (Kd.int .u8) w A0 l0.length l0) (aM : l0.length ≤ c0) (aN : Kd.C (Kd.int .u8) w A1 l1.length l1) (aO : l1.length ≤ c1) (h : laws_FnStoreNarrow.f k l0 l1 = some r) :
  Calls Try.prog 3 #[.slice A0 l0.length c0, .slice A1 l1.length c1] w fun e w' => e = .returned (.bool r) ∧ Below w.heap.size w w' := by
 have a7 := am aL
 have a8 := am aM
 clear aL aM
 have a9 := am aN
 have ba := am aO
 clear aN aO
 have HB := am (Below.refl w.heap.size w)
 have H := h; unfold laws_FnStoreNarrow.f at H
 clear h
 have aA := am H
 clear H
 go_enter Try.func3, Try.ntmps3
 go_upto_region 1 with (fail)
 go_cut [17] (fun bc wc => ∃ (kq : Nat) (av : Bool), bc = .bool av ∧ Aside0 (laws_FnStoreNarrow.j0 kq l0 l1 av = some r) ∧ Aside0 (kq ≤ k) ∧ Aside0 (Below w.heap.size w wc))
 case first =>
  have H := aA.out
  clear aA
  by_cases c4 : (l0.length : Int) > 1048576
  ·rw [if_pos c4] at H
   have aj : decide (1048576 < (l0.length : Int)) = true := decide_eq_true c4
   have aB : decide (1048576 < l0.length) = true := decide_eq_true (by omega)
   clear c4
   (first | rw [aj] | (simp only [i64_w, i32_w]; rw [aj]) | skip)
   have H' := am H
   clear H
   go_wp2
   go_meet
   case rel => exact ⟨_, (true), eqs, H', ⟨by first | omega | exact Nat.le_refl _⟩, ⟨bs HB.out⟩⟩
  ·rw [if_neg c4] at H
   have aj : decide (1048576 < (l0.length : Int)) = false := decide_eq_false c4
   have aB : decide (1048576 < l0.length) = false := decide_eq_false (by omega)
   clear c4
   (first | rw [aj] | (simp only [i64_w, i32_w]; rw [aj]) | skip)
   have H' := am H
   clear H
   go_wp2
   go_meet
   case rel => exact ⟨_, (decide ((l1.length : Int) > 1048576)), eqs, H', ⟨by first | omega | exact Nat.le_refl _⟩, ⟨bs HB.out⟩⟩
 case rest =>
  clear aA
  try clear c1
  try clear p2
  try clear c3
  try clear c4
  try clear aj
  try clear aB
  obtain ⟨kq, av, rfl, HA, aC, HB⟩ := hcut
  cases kq with
  | zero => exact absurd HA.out (by simp [laws_FnStoreNarrow.j0])
  | succ L =>
   have H := HA.out
   clear HA
   simp only [laws_FnStoreNarrow.j0] at H
   by_cases c5 : av = true
   ·subst c5
    replace H : (some true) = some r := by rw [if_pos rfl] at H; exact H
    obtain rfl := Option.some.inj H
    go_wp2
    go_ret
    exact ⟨eqr, bs HB.out⟩
   ·replace c5 := Bool.eq_false_iff.mpr c5
    subst c5
    have H1 : ((spec_DrawStoreView.f L l0).bind fun Z => ((spec_DrawStoreView.f L l1).bind fun aw => ((impl_StoreView.f L Z.1 Z.2).bind fun y => ((spec_StoreView.f L Z.1 Z.2).bind fun aa => ((impl_StoreSame.f L y aa).bind fun aD => (if aD = true then ((impl_LabelOk.f Z.2).bind fun al => (if al = true then ((impl_LabelOk.f aw.2).bind fun af => (laws_FnStoreNarrow.j1 L Z.1 Z.2 aw.2 y (!af))) else (laws_FnStoreNarrow.j1 L Z.1 Z.2 aw.2 y true))) else (laws_FnStoreNarrow.j1 L Z.1 Z.2 aw.2 y true))))))) = some r := by rw [if_neg (show ¬ (false = true) by decide)] at H; exact H
    clear H
    have H := H1
    clear H1
    replace H := Option.bind_eq_some_iff.mp H
    obtain ⟨⟨I, J⟩, aP, H⟩ := H
    try dsimp -simprocs only at H
    have A6 := am aP
    clear aP
    replace H := Option.bind_eq_some_iff.mp H
    obtain ⟨⟨be, O⟩, aQ, H⟩ := H
    try dsimp -simprocs only at H
    have A7 := am aQ
    clear aQ
    replace H := Option.bind_eq_some_iff.mp H
    obtain ⟨y, aR, H⟩ := H
    try dsimp -simprocs only at H
    have A8 := am aR
    clear aR
    have aE := am H
    clear H
    go_upto_region 6 with (first | ((with_reducible refine gc 4 rfl ?_); refine gl 20 Try.func4 #[.slice A0 l0.length c0] ?_; (with_reducible refine (spec_DrawStoreView.calls L _ _ l0 I J _ ?z ?D A6.out).mono ?_); (case z => exact Kd.C_below a7.out (bs HB.out)); (case D => exact a8.out); rintro e b1 ⟨b2, rfl, s, hb⟩; refine ⟨_, rfl, ?_⟩; have G := am (Kd.Q_lower s (below_size (bs HB.out))); replace HB := hs HB hb; (try clear s hb)) | ((with_reducible refine gc 4 rfl ?_); refine gl 25 Try.func4 #[.slice A1 l1.length c1] ?_; (with_reducible refine (spec_DrawStoreView.calls L _ _ l1 be O _ ?z ?D A7.out).mono ?_); (case z => exact Kd.C_below a9.out (bs HB.out)); (case D => exact ba.out); rintro e b3 ⟨b4, rfl, s, hb⟩; refine ⟨_, rfl, ?_⟩; have Y := am (Kd.Q_lower (Kd.Q_new' s (ql G)) (below_size (bs HB.out))); replace G := qeq G s hb; replace HB := hs HB hb; (try clear hb); (try clear hb2); (try clear hk); (try clear hi); (try clear s); obtain ⟨ag, ah, bg, _⟩ := Kd.Q_slice G.out; subst bg) | ((with_reducible refine gc 5 rfl ?_); refine gl 30 Try.func5 #[.slice ag I.length ah, .int .i64 J] ?_; (with_reducible refine (impl_StoreView.calls L _ _ I J y _ ?z ?D A8.out).mono ?_); (case z => exact cq G); (case D => exact cd G); rintro e b5 ⟨aS, rfl, s, hb⟩; refine ⟨_, rfl, ?_⟩; have M := am (Kd.R_lower (Kd.R_new' (Kd.R_new' s (ql G)) (ql Y)) (below_size (bs HB.out))); replace G := qe G s hb; replace Y := qe Y s hb; replace HB := hs HB hb; (try clear hb); (try clear hb2); (try clear hk); (try clear hi); (try clear s)))
    (try simp only [Act.put, List.setIfInBounds_toArray, List.set_cons_zero, List.set_cons_succ])
    go_cut [46] (fun bh wc => ∃ (kq : Nat) (ax : Bool), bh = .bool ax ∧ Aside0 (laws_FnStoreNarrow.j1 kq I J O y ax = some r) ∧ Aside0 (kq ≤ L) ∧ Aside0 (Kd.Q k42 42 wc w.heap.size (fun k_ => some k_ ≠ (aS : Value).ownBlock) (.slice ag I.length ah) I) ∧ Aside0 (Kd.R k42 42 wc w.heap.size (fun k_ => some k_ ≠ ((.slice ag I.length ah) : Value).ownBlock) aS y) ∧ Aside0 (Below w.heap.size w wc))
    case first =>
     have H := aE.out
     clear aE
     replace H := Option.bind_eq_some_iff.mp H
     obtain ⟨aa, aT, H⟩ := H
     try dsimp -simprocs only at H
     have aF := am aT
     clear aT
     replace H := Option.bind_eq_some_iff.mp H
     obtain ⟨aD, aU, H⟩ := H
     try dsimp -simprocs only at H
     have aG := am aU
     clear aU
     by_cases an : aD = true
     ·subst an
      replace H : ((impl_LabelOk.f J).bind fun al => (if al = true then ((impl_LabelOk.f O).bind fun af => (laws_FnStoreNarrow.j1 L I J O y (!af))) else (laws_FnStoreNarrow.j1 L I J O y true))) = some r := by rw [if_pos rfl] at H; exact H
      replace H := Option.bind_eq_some_iff.mp H
      obtain ⟨al, aV, H⟩ := H
      try dsimp -simprocs only at H
      have aW := am aV
      clear aV
      by_cases ao : al = true
      ·subst ao
       replace H : ((impl_LabelOk.f O).bind fun af => (laws_FnStoreNarrow.j1 L I J O y (!af))) = some r := by rw [if_pos rfl] at H; exact H
       replace H := Option.bind_eq_some_iff.mp H
       obtain ⟨af, aX, H⟩ := H
       try dsimp -simprocs only at H
       have bi := am aX
       clear aX
       have H' := am H
       clear H
       go_wp2_with (first | ((with_reducible refine gc 7 rfl ?_); refine gl 34 Try.func7 #[.slice ag I.length ah, .int .i64 J] ?_; (with_reducible refine (spec_StoreView.calls L _ _ I J aa _ ?z ?D aF.out).mono ?_); (case z => exact cq G); (case D => exact cd G); rintro e b6 ⟨aY, rfl, s, hb⟩; refine ⟨_, rfl, ?_⟩; have ab := am (Kd.R_lower (Kd.R_new' (Kd.R_new' (Kd.R_new' s (ql G)) (ql Y)) (rk M)) (below_size (bs HB.out))); replace G := qe G s hb; replace Y := qe Y s hb; replace M := re M s hb; replace HB := hs HB hb; (try clear hb); (try clear hb2); (try clear hk); (try clear hi); (try clear s); obtain ⟨bj, bk, bl⟩ := Kd.R_slice M.out; subst bl; obtain ⟨bm, bn, bo⟩ := Kd.R_slice ab.out; subst bo) | ((with_reducible refine gc 6 rfl ?_); refine gl 35 Try.func6 #[.slice bj y.length bk, .slice bm aa.length bn] ?_; (with_reducible refine (impl_StoreSame.calls L _ _ y _ _ aa true _ ?z ?D ?ad ?ae aG.out).mono ?_); (case z => exact cr M); (case D => exact cc M); (case ad => exact cr ab); (case ae => exact cc ab); rintro e w' ⟨rfl, ⟨nd, rfl⟩⟩; refine ⟨_, rfl, ?_⟩) | (go_at_call 8; (with_reducible refine (impl_LabelOk.calls J true _ aW.out).mono ?_); rintro e w' ⟨rfl, ⟨nd, rfl⟩⟩) | (go_at_call 8; (with_reducible refine (impl_LabelOk.calls O af _ bi.out).mono ?_); rintro e w' ⟨rfl, ⟨nd, rfl⟩⟩))
       go_meet
       case rel => exact ⟨_, (!af), eqs, H', ⟨by have := aC.out; first | omega | exact Nat.le_refl _⟩, ⟨by (with_reducible repeat (first | apply Kd.Q_alloc | apply Kd.Q_drewN | apply Kd.Q_drew)); exact Kd.Q_mono G.out (fun _ hk => hk.1.2)⟩, ⟨by (with_reducible repeat (first | apply Kd.R_alloc | apply Kd.R_drewN | apply Kd.R_drew)); exact Kd.R_mono M.out (fun _ hk => hk.1.1.2)⟩, ⟨bs HB.out⟩⟩
      ·replace ao := Bool.eq_false_iff.mpr ao
       subst ao
       have H1 : (laws_FnStoreNarrow.j1 L I J O y true) = some r := by rw [if_neg (show ¬ (false = true) by decide)] at H; exact H
       clear H
       have H := H1
       clear H1
       have H' := am H
       clear H
       go_wp2_with (first | ((with_reducible refine gc 7 rfl ?_); refine gl 34 Try.func7 #[.slice ag I.length ah, .int .i64 J] ?_; (with_reducible refine (spec_StoreView.calls L _ _ I J aa _ ?z ?D aF.out).mono ?_); (case z => exact cq G); (case D => exact cd G); rintro e b7 ⟨aY, rfl, s, hb⟩; refine ⟨_, rfl, ?_⟩; have ab := am (Kd.R_lower (Kd.R_new' (Kd.R_new' (Kd.R_new' s (ql G)) (ql Y)) (rk M)) (below_size (bs HB.out))); replace G := qe G s hb; replace Y := qe Y s hb; replace M := re M s hb; replace HB := hs HB hb; (try clear hb); (try clear hb2); (try clear hk); (try clear hi); (try clear s); obtain ⟨br, bt, bu⟩ := Kd.R_slice M.out; subst bu; obtain ⟨bv, bw, bz⟩ := Kd.R_slice ab.out; subst bz) | ((with_reducible refine gc 6 rfl ?_); refine gl 35 Try.func6 #[.slice br y.length bt, .slice bv aa.length bw] ?_; (with_reducible refine (impl_StoreSame.calls L _ _ y _ _ aa true _ ?z ?D ?ad ?ae aG.out).mono ?_); (case z => exact cr M); (case D => exact cc M); (case ad => exact cr ab); (case ae => exact cc ab); rintro e w' ⟨rfl, ⟨nd, rfl⟩⟩; refine ⟨_, rfl, ?_⟩) | (go_at_call 8; (with_reducible refine (impl_LabelOk.calls J false _ aW.out).mono ?_); rintro e w' ⟨rfl, ⟨nd, rfl⟩⟩))
       go_meet
       case rel => exact ⟨_, (true), eqs, H', ⟨by have := aC.out; first | omega | exact Nat.le_refl _⟩, ⟨by (with_reducible repeat (first | apply Kd.Q_alloc | apply Kd.Q_drewN | apply Kd.Q_drew)); exact Kd.Q_mono G.out (fun _ hk => hk.1.2)⟩, ⟨by (with_reducible repeat (first | apply Kd.R_alloc | apply Kd.R_drewN | apply Kd.R_drew)); exact Kd.R_mono M.out (fun _ hk => hk.1.1.2)⟩, ⟨bs HB.out⟩⟩
     ·replace an := Bool.eq_false_iff.mpr an
      subst an
      have H1 : (laws_FnStoreNarrow.j1 L I J O y true) = some r := by rw [if_neg (show ¬ (false = true) by decide)] at H; exact H
      clear H
      have H := H1
      clear H1
      have H' := am H
      clear H
      go_wp2_with (first | ((with_reducible refine gc 7 rfl ?_); refine gl 34 Try.func7 #[.slice ag I.length ah, .int .i64 J] ?_; (with_reducible refine (spec_StoreView.calls L _ _ I J aa _ ?z ?D aF.out).mono ?_); (case z => exact cq G); (case D => exact cd G); rintro e b8 ⟨aY, rfl, s, hb⟩; refine ⟨_, rfl, ?_⟩; have ab := am (Kd.R_lower (Kd.R_new' (Kd.R_new' (Kd.R_new' s (ql G)) (ql Y)) (rk M)) (below_size (bs HB.out))); replace G := qe G s hb; replace Y := qe Y s hb; replace M := re M s hb; replace HB := hs HB hb; (try clear hb); (try clear hb2); (try clear hk); (try clear hi); (try clear s); obtain ⟨bA, bB, bC⟩ := Kd.R_slice M.out; subst bC; obtain ⟨bD, bE, bF⟩ := Kd.R_slice ab.out; subst bF) | ((with_reducible refine gc 6 rfl ?_); refine gl 35 Try.func6 #[.slice bA y.length bB, .slice bD aa.length bE] ?_; (with_reducible refine (impl_StoreSame.calls L _ _ y _ _ aa false _ ?z ?D ?ad ?ae aG.out).mono ?_); (case z => exact cr M); (case D => exact cc M); (case ad => exact cr ab); (case ae => exact cc ab); rintro e w' ⟨rfl, ⟨nd, rfl⟩⟩; refine ⟨_, rfl, ?_⟩))
      go_meet
      case rel => exact ⟨_, (true), eqs, H', ⟨by have := aC.out; first | omega | exact Nat.le_refl _⟩, ⟨by (with_reducible repeat (first | apply Kd.Q_alloc | apply Kd.Q_drewN | apply Kd.Q_drew)); exact Kd.Q_mono G.out (fun _ hk => hk.1.2)⟩, ⟨by (with_reducible repeat (first | apply Kd.R_alloc | apply Kd.R_drewN | apply Kd.R_drew)); exact Kd.R_mono M.out (fun _ hk => hk.1.1.2)⟩, ⟨bs HB.out⟩⟩
    case rest =>
     clear aE
     try clear c1
     try clear p2
     try clear c3
     try clear c4
     try clear aj
     try clear aB
     try clear c5
     try clear c6
     try clear c7
     try clear an
     try clear ao
     try clear p2
     obtain ⟨kq, ax, rfl, HA, b9, X, T, HB⟩ := hcut
     cases kq with
     | zero => exact absurd HA.out (by simp [laws_FnStoreNarrow.j1])
     | succ ac =>
      have H := HA.out
      clear HA
      simp only [laws_FnStoreNarrow.j1] at H
      by_cases ay : ax = true
      ·subst ay
       replace H : ((spec_StoreView.f ac I J).bind fun ap => ((impl_StoreSame.f ac y ap).bind fun aH => (some aH))) = some r := by rw [if_pos rfl] at H; exact H
       replace H := Option.bind_eq_some_iff.mp H
       obtain ⟨ap, aZ, H⟩ := H
       try dsimp -simprocs only at H
       have bG := am aZ
       clear aZ
       replace H := Option.bind_eq_some_iff.mp H
       obtain ⟨aH, a2, H⟩ := H
       try dsimp -simprocs only at H
       have bH := am a2
       clear a2
       obtain rfl := Option.some.inj H
       go_wp2_with (first | ((with_reducible refine gc 7 rfl ?_); refine gl 50 Try.func7 #[.slice ag I.length ah, .int .i64 J] ?_; (with_reducible refine (spec_StoreView.calls ac _ _ I J ap _ ?z ?D bG.out).mono ?_); (case z => exact cq X); (case D => exact cd X); rintro e ce ⟨cf, rfl, s, hb⟩; refine ⟨_, rfl, ?_⟩; have aI := am (Kd.R_lower (Kd.R_new' (Kd.R_new' s (ql X)) (rk T)) (below_size (bs HB.out))); replace X := qe X s hb; replace T := re T s hb; replace HB := hs HB hb; (try clear hb); (try clear hb2); (try clear hk); (try clear hi); (try clear s); obtain ⟨bI, bJ, bK⟩ := Kd.R_slice T.out; subst bK; obtain ⟨bL, bM, bN⟩ := Kd.R_slice aI.out; subst bN) | ((with_reducible refine gc 6 rfl ?_); refine gl 51 Try.func6 #[.slice bI y.length bJ, .slice bL ap.length bM] ?_; (with_reducible refine (impl_StoreSame.calls ac _ _ y _ _ ap aH _ ?z ?D ?ad ?ae bH.out).mono ?_); (case z => exact cr T); (case D => exact cc T); (case ad => exact cr aI); (case ae => exact cc aI); rintro e w' ⟨rfl, ⟨nd, rfl⟩⟩; refine ⟨_, rfl, ?_⟩))
       go_ret
       exact ⟨eqr, bs HB.out⟩
      ·replace ay := Bool.eq_false_iff.mpr ay
       subst ay
       have H1 : ((impl_StoreView.f ac y O).bind fun aq => ((impl_LabelMeet.f J O).bind fun ar => ((impl_StoreView.f ac I ar).bind fun au => ((impl_StoreSame.f ac aq au).bind fun aJ => (if aJ = true then (some (decide ((y.length : Int) ≤ (I.length : Int)))) else (some false)))))) = some r := by rw [if_neg (show ¬ (false = true) by decide)] at H; exact H
       clear H
       have H := H1
       clear H1
       replace H := Option.bind_eq_some_iff.mp H
       obtain ⟨aq, a3, H⟩ := H
       try dsimp -simprocs only at H
       have bO := am a3
       clear a3
       replace H := Option.bind_eq_some_iff.mp H
       obtain ⟨ar, a4, H⟩ := H
       try dsimp -simprocs only at H
       have bP := am a4
       clear a4
       replace H := Option.bind_eq_some_iff.mp H
       obtain ⟨au, a5, H⟩ := H
       try dsimp -simprocs only at H
       have bQ := am a5
       clear a5
       replace H := Option.bind_eq_some_iff.mp H
       obtain ⟨aJ, a6, H⟩ := H
       try dsimp -simprocs only at H
       have bR := am a6
       clear a6
       by_cases az : aJ = true
       ·subst az
        replace H : (some (decide ((y.length : Int) ≤ (I.length : Int)))) = some r := by rw [if_pos rfl] at H; exact H
        obtain rfl := Option.some.inj H
        obtain ⟨bS, bT, bU⟩ := Kd.R_slice T.out
        subst bU
        go_wp2_with (first | ((with_reducible refine gc 5 rfl ?_); refine gl 54 Try.func5 #[.slice bS y.length bT, .int .i64 O] ?_; (with_reducible refine (impl_StoreView.calls ac _ _ y O aq _ ?z ?D bO.out).mono ?_); (case z => exact cr T); (case D => exact cc T); rintro e cg ⟨ch, rfl, s, hb⟩; refine ⟨_, rfl, ?_⟩; have ak := am (Kd.R_lower (Kd.R_new' (Kd.R_new' s (ql X)) (rk T)) (below_size (bs HB.out))); replace X := qe X s hb; replace T := re T s hb; replace HB := hs HB hb; (try clear hb); (try clear hb2); (try clear hk); (try clear hi); (try clear s)) | ((with_reducible refine gc 9 rfl ?_); refine gl 58 Try.func9 #[.int .i64 J, .int .i64 O] ?_; (with_reducible refine (impl_LabelMeet.calls J O ar _ bP.out).mono ?_); rintro e w' ⟨rfl, ⟨nd, rfl⟩⟩; refine ⟨_, rfl, ?_⟩) | ((with_reducible refine gc 5 rfl ?_); refine gl 59 Try.func5 #[.slice ag I.length ah, .int .i64 ar] ?_; (with_reducible refine (impl_StoreView.calls ac _ _ I ar au _ ?z ?D bQ.out).mono ?_); (case z => exact cq X); (case D => exact cd X); rintro e ci ⟨cj, rfl, s, hb⟩; refine ⟨_, rfl, ?_⟩; have aK := am (Kd.R_lower (Kd.R_new' (Kd.R_new' (Kd.R_new' s (ql X)) (rk T)) (rk ak)) (below_size (bs HB.out))); replace X := qe X s hb; replace T := re T s hb; replace ak := re ak s hb; replace HB := hs HB hb; (try clear hb); (try clear hb2); (try clear hk); (try clear hi); (try clear s); obtain ⟨bV, bW, bX⟩ := Kd.R_slice ak.out; subst bX; obtain ⟨bY, bZ, b0⟩ := Kd.R_slice aK.out; subst b0) | ((with_reducible refine gc 6 rfl ?_); refine gl 60 Try.func6 #[.slice bV aq.length bW, .slice bY au.length bZ] ?_; (with_reducible refine (impl_StoreSame.calls ac _ _ aq _ _ au true _ ?z ?D ?ad ?ae bR.out).mono ?_); (case z => exact cr ak); (case D => exact cc ak); (case ad => exact cr aK); (case ae => exact cc aK); rintro e w' ⟨rfl, ⟨nd, rfl⟩⟩; refine ⟨_, rfl, ?_⟩))
        go_ret
        exact ⟨eqr, bs HB.out⟩
       ·replace az := Bool.eq_false_iff.mpr az
        subst az
        have H1 : (some false) = some r := by rw [if_neg (show ¬ (false = true) by decide)] at H; exact H
        clear H
        have H := H1
        clear H1
        exact absurd (Option.some.inj H) (by rw [hT.out]; decide)

end Go.Proofs.Ytkbamcicbofjbaa.QFnStoreNarrow
