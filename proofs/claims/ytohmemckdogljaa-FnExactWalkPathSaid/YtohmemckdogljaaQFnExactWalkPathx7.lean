/- Contracts of the Go functions that this law reaches: each does what its plain Lean function says. No condition. -/
import Derived.Test.YtohmemckdogljaaQFnExactWalkPathx0
import Derived.Test.YtohmemckdogljaaQFnExactWalkPathx2
import Derived.Test.YtohmemckdogljaaQFnExactWalkPathx6
namespace Go.Proofs.Ytohmemckdogljaa.QFnExactWalkPath
open Go.RowKit Go.Proofs.YtohmemckdogljaaW.PrintWords Go.Proofs.YtohmemckdogljaaW.PrintLast Go.Proofs.YtohmemckdogljaaW.PrintMore Go.Proofs.Ytohmemckdogljaa.Bl
attribute [local go_sem] max2_int min2_int max_two min_two max_three min_three max_four min_four   -- for this text's walks alone
set_option linter.unusedVariables false
set_option linter.unusedSimpArgs false
set_option maxHeartbeats 8000000
set_option maxRecDepth 100000

/-! ### spec_l3Dist: function 63 -/
mutual
def spec_l3Dist.l0 : Nat → List Int → Int → List (S36) → List (S56) → Int → Int → Option (List Int)
 | 0, _, _, _, _, _, _ => none
 | k + 1, s, J, y, z, D, G => if J < (y.length : Int) then (if s.length < 17592186044416 then (spec_l3Dist.l0 k (s ++ [(-1)]) (wrap64 (J + 1)) y z D G) else (none)) else ((spec_l2At.f k y z D G).bind fun I => (if 0 ≤ I then (if I < (s.length : Int) then (spec_l3Dist.l1 k (s.set (I : Int).toNat 0) (([(⟨D, G⟩ : S36)] : List (S36))) 0 y z) else (none)) else (none)))
def spec_l3Dist.l1 : Nat → List Int → List (S36) → Int → List (S36) → List (S56) → Option (List Int)
 | 0, _, _, _, _, _ => none
 | k + 1, z, y, s, D, G => if s < (y.length : Int) then (if 0 ≤ s then ((spec_l2Near.f k D G ((rd_T36 y s).f0) ((rd_T36 y s).f1)).bind fun J => ((spec_l2At.f k D G ((rd_T36 y s).f0) ((rd_T36 y s).f1)).bind fun I => (if 0 ≤ I then (if I < (z.length : Int) then (spec_l3Dist.l2 k z y s J (rd z I) 0 D G) else (none)) else (none)))) else (none)) else (some z)
def spec_l3Dist.l2 : Nat → List Int → List (S36) → Int → List (S36) → Int → Int → List (S36) → List (S56) → Option (List Int)
 | 0, _, _, _, _, _, _, _, _ => none
 | k + 1, z, D, L, y, O, s, G, I => if s < (y.length : Int) then (if 0 ≤ s then ((spec_l2At.f k G I ((rd_T36 y s).f0) ((rd_T36 y s).f1)).bind fun J => (if 0 ≤ J then (if J < (z.length : Int) then (if (rd z J) < 0 then (if D.length < 8796093022208 then (spec_l3Dist.l2 k (z.set (J : Int).toNat (wrap64 (O + 1))) (D ++ [(⟨(rd_T36 y s).f0, (rd_T36 y s).f1⟩ : S36)]) L y O (wrap64 (s + 1)) G I) else (none)) else (spec_l3Dist.l2 k z D L y O (wrap64 (s + 1)) G I)) else (none)) else (none))) else (none)) else (spec_l3Dist.l1 k z D (wrap64 (L + 1)) G I)
end
def spec_l3Dist.f (k : Nat) (s : List (S36)) (y : List (S56)) (z : Int) (D : Int) : Option (List Int) := spec_l3Dist.l0 k (([] : List Int)) 0 s y z D
def spec_l3Dist.T12 : Bool × List (List Nat × List Nat) := (true, [([], []), ([], []), ([], []), ([], []), ([2, 3], [2, 3]), ([4], [4]), ([1, 5], [1, 5]), ([0, 6], [0, 6]), ([7], [7]), ([8, 6, 0, 1, 2, 3, 4, 5, 6, 7, 8], [8])])
def spec_l3Dist.B12 : List Nat := [0, 0, 0, 0, 12, 28, 62, 127, 255, 511]
theorem spec_l3Dist.tab12 : rtab .any (opsOf Try.f63 12) = spec_l3Dist.T12 := by kernel_rfl
theorem spec_l3Dist.bits12 : waitsOk spec_l3Dist.T12.2 spec_l3Dist.B12 = true := by kernel_rfl
theorem spec_l3Dist.calls (k : Nat) (af : Option Addr) (ag : Nat) (J : List (S36)) (ah : Option Addr) (ai : Nat) (T : List (S56)) (Y : Int) (Z : Int) (r : List Int) (w : World) (bX : Kd.C k36 w af J.length J) (bY : J.length ≤ ag) (bZ : Kd.C k56 w ah T.length T) (b0 : T.length ≤ ai) (h : spec_l3Dist.f k J T Y Z = some r) :
  Calls Try.prog 63 #[.agg #[.slice af J.length ag, .slice ah T.length ai], .agg #[.int .i64 Y, .int .i64 Z]] w fun e w' => ∃ b1 : Value, e = .returned (b1) ∧ Kd.R (Kd.int .i64) 3 w' w.heap.size (fun _ => True) b1 r ∧ Below w.heap.size w w' := by
 have hu34 := Try.underlying34
 have hu36 := Try.underlying36
 have aZ := am bX
 have a4 := am bY
 clear bX bY
 have a5 := am bZ
 have a6 := am b0
 clear bZ b0
 have HB := am (Below.refl w.heap.size w)
 have H := h; unfold spec_l3Dist.f at H
 clear h
 obtain ⟨b2, bw⟩ : ∃ y_ : List Int, y_ = (([] : List Int)) := ⟨_, rfl⟩
 replace H : (spec_l3Dist.l0 k b2 0 J T Y Z) = some r := by first | (rw [bw]; exact H) | exact H
 have b3 := am bw
 clear bw
 have H' := am H
 clear H
 go_enter Try.func63, Try.ntmps63
 go_wp2_with (first | ((with_reducible refine gd 2 rfl ?_); refine bx 2 (cs := #[.slice af J.length ag, .slice ah T.length ai]) (t := 34) ?_; intro ao hg w3 hbox hb; have s := am hbox; have dA := gwb HB hg; replace HB := hs HB hb; clear hb hbox hg) | ((with_reducible refine gd 3 rfl ?_); refine bx 3 (cs := #[.int .i64 Y, .int .i64 Z]) (t := 36) ?_; intro an hg w4 hbox hb; have D := am hbox; have dB := gwb HB hg; replace HB := hs HB hb; have b4 := nq s hg; have b5 := nq' s hg; replace s := bb s hb rfl; clear hb hbox hg) | ((with_reducible refine gd 13 rfl ?_); refine Kd.R_lit (Kd.int .i64) _ 3 ?hg (N := 13) ?hd (xs := ([] : List Int)) (inner := []) (ok := fun _ => True) (okp := fun _ => True) ?hr ?hp (fun _ hk => hk) trivial (Below.refl _ _) (Nat.le_refl _) (by simp) ?_; (case hd => rfl); (case hg => rfl); (case hr => first | (go_simp; done) | (go_simp; rfl)); (case hp => exact (Reps.none _ _)); intro dC w5 a7 hb hg_ hnew_; clear hg_ hnew_; (first | rw [← b3.out] at a7 | (simp only [Int.reduceToNat] at a7; rw [← b3.out] at a7)); have cO := am (Kd.R_lower a7 (below_size (bs HB.out))); replace s := bb s hb rfl; replace D := bb D hb rfl; replace HB := hs HB hb; clear hb a7))
 go_loopg [5, 6] k (fun kq v5 v6 w' => ∃ (aj : List Int) (ax : Int), v6 = .int .i64 ax ∧ Aside0 (spec_l3Dist.l0 kq aj ax J T Y Z = some r) ∧ Aside0 (kq ≤ k) ∧ Aside0 (Kd.R (Kd.int .i64) 3 w' w.heap.size (fun _ => True) v5 aj) ∧ Aside0 (w'.heap[ao]? = some (.cells #[(.slice af J.length ag), (.slice ah T.length ai)] 34 (0, 0))) ∧ Aside0 (w'.heap[an]? = some (.cells #[.int .i64 Y, .int .i64 Z] 36 (0, 0))) ∧ Aside0 (Below w.heap.size w w'))
 case atStart => exact ⟨(b2), (0), eqs, H', ⟨Nat.le_refl _⟩, ⟨rl cO.out⟩, ⟨bf s.out⟩, ⟨bf D.out⟩, ⟨bs HB.out⟩⟩
 case round =>
  clear H'
  try clear p2
  try clear c6
  obtain ⟨aj, ax, rfl, HA, ay, y, s, D, HB⟩ := hrel
  cases gk with
  | zero => exact absurd HA.out (by simp [spec_l3Dist.l0])
  | succ k1 =>
   have H := HA.out
   clear HA
   simp only [spec_l3Dist.l0] at H
   by_cases c7 : ax < (J.length : Int)
   ·rw [if_pos c7] at H
    have bz : decide (ax < (J.length : Int)) = true := decide_eq_true c7
    clear c7
    by_cases c8 : aj.length < 17592186044416
    ·rw [if_pos c8] at H
     have cP := am c8
     clear c8
     obtain ⟨b6, bA⟩ : ∃ y_ : List Int, y_ = (aj ++ [(-1)]) := ⟨_, rfl⟩
     replace H : (spec_l3Dist.l0 k1 b6 (wrap64 (ax + 1)) J T Y Z) = some r := by first | (rw [bA]; exact H) | exact H
     have cQ := am bA
     clear bA
     have H' := am H
     clear H
     have dD := b4.out
     have dE := b5.out
     obtain ⟨b7, b8⟩ := bc2 (w := wr) s.out
     have b9 := blk_frozen s.out
     go_wp2_with (first | ((with_reducible refine gate_builtin (b := .append) (xs := #[.tmp 21, .tmp 22]) rfl ?_); at_builtin; refine Kd.R_append (Kd.int .i64) (w0 := w) w.heap.size rfl (.tmp 21) (.tmp 22) 43 3 (.int .i64 0) 8 rfl Try.underlying43 info3 rfl (by decide) (by omega) u5 aj (-1) [.int .i64 (-1)] (fun _ => True) (fun _ => False) rfl rfl ?aP (fun _ hk => hk.elim) ?aF ?aO ?aB ?aS ?aL ?_; (case aP => exact rfl); (case aB => exact (bs HB.out)); (case aF => exact (fun _ _ => trivial)); (case aO => exact (rl y.out)); (case aS => exact (below_size (bs HB.out))); (case aL => have := cP.out; omega); intro dF dG ho hb hg hat; rw [← cQ.out] at ho; replace s := gr s y hg; replace D := gr D y hg; replace HB := am hb; have cR := am ho; clear y; clear ho hb hg hat))
     go_roundg k1
     case measure => have := ay.out; omega
     case rel => exact ⟨(b6), (wrap64 (ax + 1)), eqs, H', ⟨by have := ay.out; omega⟩, ⟨rl cR.out⟩, ⟨bf s.out⟩, ⟨bf D.out⟩, ⟨bs HB.out⟩⟩
    ·rw [if_neg c8] at H
     exact absurd H (by simp)
   ·rw [if_neg c7] at H
    have bz : decide (ax < (J.length : Int)) = false := decide_eq_false c7
    clear c7
    obtain ⟨bB, bC⟩ : ∃ y_ : List (S36), y_ = (([(⟨Y, Z⟩ : S36)] : List (S36))) := ⟨_, rfl⟩
    replace H : ((spec_l2At.f k1 J T Y Z).bind fun ad => (if 0 ≤ ad then (if ad < (aj.length : Int) then (spec_l3Dist.l1 k1 (aj.set (ad : Int).toNat 0) bB 0 J T) else (none)) else (none))) = some r := by first | (rw [bC]; exact H) | exact H
    have ce := am bC
    clear bC
    replace H := Option.bind_eq_some_iff.mp H
    obtain ⟨ad, cf, H⟩ := H
    try dsimp -simprocs only at H
    have cS := am cf
    clear cf
    by_cases aQ : 0 ≤ ad
    ·rw [if_pos aQ] at H
     have cg : decide (0 ≤ ad) = true := decide_eq_true aQ
     clear aQ
     by_cases aR : ad < (aj.length : Int)
     ·rw [if_pos aR] at H
      have ch : decide (ad < (aj.length : Int)) = true := decide_eq_true aR
      clear aR
      obtain ⟨bD, bE⟩ : ∃ y_ : List Int, y_ = (aj.set (ad : Int).toNat 0) := ⟨_, rfl⟩
      replace H : (spec_l3Dist.l1 k1 bD bB 0 J T) = some r := by first | (rw [bE]; exact H) | exact H
      have cT := am bE
      clear bE
      have H' := am H
      clear H
      have dH := b4.out
      have dI := b5.out
      obtain ⟨ci, cj⟩ := bc2 (w := wr) s.out
      have ck := blk_frozen s.out
      obtain ⟨cl, cm⟩ := bc2 (w := wr) D.out
      have cn := blk_frozen D.out
      go_wp2_with (first | ((with_reducible refine gd 25 rfl ?_); refine Kd.R_lit k36 _ 36 ?hg (N := 25) ?hd (xs := ([(⟨Y, Z⟩ : S36)] : List (S36))) (inner := [.int .i64 Y, .int .i64 Z]) (ok := fun _ => True) (okp := fun _ => True) ?hr ?hp (fun _ hk => hk) trivial (Below.refl _ _) (Nat.le_refl _) (by simp) ?_; (case hd => rfl); (case hg => rfl); (case hr => first | (go_simp; done) | (go_simp; rfl)); (case hp => exact (Reps.c2 (show Kd.M k36 _ _ _ (⟨Y, Z⟩ : S36) [.int .i64 Y, .int .i64 Z] from (k36_mkM _ _ _ (⟨Y, Z⟩ : S36) )) (Reps.none _ _))); intro dJ co a8 hb hg_ hnew_; clear hg_ hnew_; (first | rw [← ce.out] at a8 | (simp only [Int.reduceToNat] at a8; rw [← ce.out] at a8)); replace y := rb y hb; have a9 := am (Kd.R_lower (Kd.R_newB a8 (g := an) (o := .cells #[.int .i64 Y, .int .i64 Z] 36 (0, 0)) (bf D.out)) (below_size (bs HB.out))); replace s := bb s hb rfl; replace D := bb D hb rfl; replace HB := hs HB hb; clear hb a8; obtain ⟨cp, ct⟩ := bc2 (w := co) s.out; have cu := blk_frozen s.out; obtain ⟨cv, cy⟩ := bc2 (w := co) D.out; have cz := blk_frozen D.out) | ((with_reducible refine gc 62 rfl ?_); refine gl 29 Try.func62 #[.agg #[.slice af J.length ag, .slice ah T.length ai], .agg #[.int .i64 Y, .int .i64 Z]] ?_; (with_reducible refine (spec_l2At.calls k1 _ _ J _ _ T Y Z ad _ ?aq ?ar ?au ?av cS.out).mono ?_); (case aq => exact Kd.C_below aZ.out (bs HB.out)); (case ar => exact a4.out); (case au => exact Kd.C_below a5.out (bs HB.out)); (case av => exact a6.out); rintro e cA ⟨rfl, hb⟩; refine ⟨_, rfl, ?_⟩; replace y := rb y hb; replace a9 := rb a9 hb; replace s := bb s hb rfl; replace D := bb D hb rfl; replace HB := hs HB hb; (try clear hb); have az : 0 ≤ (ad : Int) := oda; have aA : (ad : Int) < ((aj.length : Int) : Int) := oda; obtain ⟨ak, aC, cB, cC, cU, dK, cD⟩ := Kd.R_form y.out (by omega); (first | cases cB | (injection cB with ea_ en_ ec_; (first | subst ea_ | (injection ea_ with ea_; subst ea_)); subst ec_; clear en_)); have cE := am cC; have dL := am cD; clear cC cU cD; obtain ⟨cF, dM⟩ := Kd.R_celln 0 y.out (ad : Int) az aA; replace az := eq_true az; replace aA := eq_true aA; obtain ⟨hy24_, dN⟩ := Kd.R_celln 0 y.out (ad : Int) (oda) (oda); have bF := Kd.R_putg y.out (ad : Int) 0) | ((with_reducible refine gate_store (t := 3) (p := 30) rfl ?_); refine store_event (t := 3) (p := 30) (v := ?vo_w25) (w1 := (cA.setCell ⟨ak, (ad : Int).toNat, none⟩ (.int .i64 0))) ?hg ?ho ?hn ?hr ?_; (case ho => rfl); (case hg => rfl); (case hn => rfl); (case hr => first | (go_simp; done) | (go_simp; rfl)); intro bG hw; have hg : cA.grownBy bG (some ak) := (by rw [hw]; exact bF.2); have hp_ : Kd.R (Kd.int .i64) 3 bG w.heap.size (fun _ => True) (.slice (some ⟨ak, 0, none⟩) aj.length aC) bD := (by rw [hw, cT.out]; exact bF.1); clear bF; replace s := gr s y hg; replace D := gr D y hg; replace a9 := am (Kd.R_over' (v := (.slice (some ⟨ak, 0, none⟩) aj.length aC)) (rl a9.out) (Kd.R_typed y.out) (by decide) hg); replace y := am hp_; replace HB := am ((by rw [hw]; exact below_set (HB.out) cE.out : Below w.heap.size w bG)); clear hg hw hp_))
      go_loopg [7, 8] k1 (fun kq v7 v8 w' => ∃ (al : List Int) (ab : List (S36)) (L : Int), v8 = .int .i64 L ∧ Aside0 (spec_l3Dist.l1 kq al ab L J T = some r) ∧ Aside0 (kq ≤ k1) ∧ Aside0 (Kd.R (Kd.int .i64) 3 w' w.heap.size (fun _ => True) (.slice (some ⟨ak, 0, none⟩) aj.length aC) al) ∧ Aside0 (Kd.R k36 36 w' w.heap.size (fun k_ => k_ ≠ an) v7 ab) ∧ Aside0 (w'.heap[ao]? = some (.cells #[(.slice af J.length ag), (.slice ah T.length ai)] 34 (0, 0))) ∧ Aside0 (w'.heap[an]? = some (.cells #[.int .i64 Y, .int .i64 Z] 36 (0, 0))) ∧ Aside0 (Below w.heap.size w w'))
      case atStart => exact ⟨(bD), (bB), (0), eqs, H', ⟨Nat.le_refl _⟩, ⟨rl y.out⟩, ⟨by (with_reducible repeat (first | apply Kd.R_alloc | apply Kd.R_drewN | apply Kd.R_drew)); exact Kd.R_mono a9.out (fun _ hk => hk.2)⟩, ⟨bf s.out⟩, ⟨bf D.out⟩, ⟨bs HB.out⟩⟩
      case round =>
       clear H'
       try clear c1
       try clear p1
       try clear q1
       try clear cV
       try clear c2
       try clear p2
       try clear c6
       try clear p6
       try clear c7
       try clear bz
       try clear c8
       try clear c9
       try clear aQ
       try clear cg
       try clear aR
       try clear ch
       try clear az
       try clear aA
       try clear cW
       try clear cX
       try clear cY
       try clear b7 b8
       try clear ci cj
       try clear cl cm
       try clear cp ct
       try clear cv cy
       try clear b9
       try clear ck
       try clear cn
       try clear cu
       try clear cz
       try clear cF
       try clear az
       try clear p2
       try clear aA
       obtain ⟨al, ab, L, rfl, HA, aT, y, I, s, D, HB⟩ := hrel
       have hl5_2 := (Kd.R_reads' y.out).1
       rw [hl5_2] at y
       (try simp only [hl5_2])
       (try simp only [hl5_2] at s)
       (try simp only [hl5_2] at D)
       (try simp only [hl5_2] at I)
       cases gk with
       | zero => exact absurd HA.out (by simp [spec_l3Dist.l1])
       | succ k2 =>
        have H := HA.out
        clear HA
        simp only [spec_l3Dist.l1] at H
        by_cases aD : L < (ab.length : Int)
        ·rw [if_pos aD] at H
         have cG : decide (L < (ab.length : Int)) = true := decide_eq_true aD
         clear aD
         by_cases ba : 0 ≤ L
         ·rw [if_pos ba] at H
          have cZ : decide (0 ≤ L) = true := decide_eq_true ba
          clear ba
          replace H := Option.bind_eq_some_iff.mp H
          obtain ⟨O, cH, H⟩ := H
          try dsimp -simprocs only at H
          have c0 := am cH
          clear cH
          replace H := Option.bind_eq_some_iff.mp H
          obtain ⟨ae, cI, H⟩ := H
          try dsimp -simprocs only at H
          have c4 := am cI
          clear cI
          by_cases bc : 0 ≤ ae
          ·rw [if_pos bc] at H
           have c5 : decide (0 ≤ ae) = true := decide_eq_true bc
           clear bc
           by_cases be : ae < (al.length : Int)
           ·rw [if_pos be] at H
            have da : decide (ae < (al.length : Int)) = true := decide_eq_true be
            clear be
            have H' := am H
            clear H
            obtain ⟨dO, dP, db⟩ := Kd.R_slice I.out
            subst db
            try go_wp2
            replace y := rd_ y
            replace I := rd_ I
            replace s := bd s
            replace D := bd D
            replace HB := hd HB
            have bi : 0 ≤ (L : Int) := oda
            have bj : L < (ab.length : Int) := oda
            obtain ⟨aE, dc, bH, bI⟩ := at_T36 (Kd.R_reads' I.out).2.2 L bi bj
            cases dc
            replace bi := eq_true bi
            replace bj := eq_true bj
            refine sta 7 (fun w' => w'.cell? ⟨ao, 0, none⟩ = some (.slice af J.length ag) ∧ w'.cell? ⟨ao, 1, none⟩ = some (.slice ah T.length ai) ∧ w'.cell? (aE.add ((L).toNat * 2)) = some (.int .i64 ((rd_T36 ab L).f0)) ∧ w'.cell? ⟨(aE.add ((L).toNat * 2)).block, (aE.add ((L).toNat * 2)).off + 1, none⟩ = some (.int .i64 ((rd_T36 ab L).f1))) [] ⟨cx s 0, cx s 1, bH, bI⟩ (fun hHeld => ?_)
            generalize wr.drew = dQ at y I s D HB bH bI hHeld ⊢
            refine pu 1 38 ?_
            refine pu 2 39 ?_
            refine pu 3 40 ?_
            refine tk 0 37 ?_
            refine tk 4 41 ?_
            refine on 5 42 (fun K hK => ?_)
            refine gs Try.func64 #[.agg #[.slice af J.length ag, .slice ah T.length ai], .agg #[.int .i64 ((rd_T36 ab L).f0), .int .i64 ((rd_T36 ab L).f1)]] ?_
            with_reducible refine (spec_l2Near.calls k2 _ _ J _ _ T ((rd_T36 ab L).f0) ((rd_T36 ab L).f1) O _ ?aq ?ar ?au ?av c0.out).mono ?_
            (case aq => exact Kd.C_below aZ.out (bs HB.out))
            (case ar => exact a4.out)
            (case au => exact Kd.C_below a5.out (bs HB.out))
            (case av => exact a6.out)
            rintro e dd ⟨cJ, rfl, bJ, hb⟩
            have aG := cw hb hHeld.2.2.1
            have aH := cw hb hHeld.2.2.2
            refine ⟨_, rfl, ?_⟩
            replace y := rb y hb
            have aU := am (Kd.R_lower (Kd.R_newB (Kd.R_new' bJ (rk I)) (g := an) (o := .cells #[.int .i64 Y, .int .i64 Z] 36 (0, 0)) (bf D.out)) (below_size (bs HB.out)))
            replace I := re I bJ hb
            replace s := bb s hb rfl
            replace D := bb D hb rfl
            replace HB := hs HB hb
            (try clear hb)
            (try clear hb2)
            (try clear hk)
            (try clear hi)
            (try clear bJ)
            refine hK.out _ _ ⟨cx s 0, cx s 1, aG, aH⟩ (fun hHeld => ?_)
            clear hK K
            refine nrm 42 ?_
            refine pu 6 9 ?_
            refine dn ?_
            try go_wp2
            replace y := rd_ y
            replace I := rd_ I
            replace aU := rd_ aU
            replace s := bd s
            replace D := bd D
            replace HB := hd HB
            have bk : 0 ≤ (L : Int) := oda
            have bl : L < (ab.length : Int) := oda
            obtain ⟨de, df, bK, bL⟩ := at_T36 (Kd.R_reads' I.out).2.2 L bk bl
            obtain rfl : aE = de := (by injection df)
            replace bk := eq_true bk
            replace bl := eq_true bl
            have bm : 0 ≤ (ae : Int) := oda
            have bn : ae < (al.length : Int) := oda
            obtain ⟨dg, dh, aV⟩ := Kd.at_int (Kd.R_reads' y.out).2.2 ae bm bn
            obtain rfl : (⟨ak, 0, none⟩ : Addr) = dg := (by injection dh)
            (first | simp only [add_plain] at aV | simp only [add_at] at aV | simp only [Addr.add, Nat.zero_add] at aV | skip)
            replace bm := eq_true bm
            replace bn := eq_true bn
            refine sta 10 (fun w' => w'.cell? ⟨ao, 0, none⟩ = some (.slice af J.length ag) ∧ w'.cell? ⟨ao, 1, none⟩ = some (.slice ah T.length ai) ∧ w'.cell? (aE.add ((L).toNat * 2)) = some (.int .i64 ((rd_T36 ab L).f0)) ∧ w'.cell? ⟨(aE.add ((L).toNat * 2)).block, (aE.add ((L).toNat * 2)).off + 1, none⟩ = some (.int .i64 ((rd_T36 ab L).f1)) ∧ w'.cell? ⟨ak, (ae).toNat, none⟩ = some (.int .i64 (rd al ae))) [] ⟨cx s 0, cx s 1, bK, bL, aV⟩ (fun hHeld => ?_); refine with_tabW spec_l3Dist.tab12 spec_l3Dist.bits12 (fun HT_ HW_ => ?_)
            generalize dd.drew = dR at y I aU s D HB bK bL aV hHeld ⊢
            refine pu 0 43 ?_
            refine pu 2 45 ?_
            refine pu 3 46 ?_
            refine pu 4 47 ?_
            refine tk 1 44 ?_
            refine tk 5 48 ?_
            refine on 6 49 (fun K hK => ?_)
            refine gs Try.func62 #[.agg #[.slice af J.length ag, .slice ah T.length ai], .agg #[.int .i64 ((rd_T36 ab L).f0), .int .i64 ((rd_T36 ab L).f1)]] ?_
            with_reducible refine (spec_l2At.calls k2 _ _ J _ _ T ((rd_T36 ab L).f0) ((rd_T36 ab L).f1) ae _ ?aq ?ar ?au ?av c4.out).mono ?_
            (case aq => exact Kd.C_below aZ.out (bs HB.out))
            (case ar => exact a4.out)
            (case au => exact Kd.C_below a5.out (bs HB.out))
            (case av => exact a6.out)
            rintro e dS ⟨rfl, hb⟩
            have aG := cw hb hHeld.2.2.1
            have aH := cw hb hHeld.2.2.2.1
            have di := cw hb hHeld.2.2.2.2
            refine ⟨_, rfl, ?_⟩
            replace y := rb y hb
            replace I := rb I hb
            replace aU := rb aU hb
            replace s := bb s hb rfl
            replace D := bb D hb rfl
            replace HB := hs HB hb
            (try clear hb)
            (try clear hb2)
            (try clear hk)
            (try clear hi)
            refine hK.out _ _ ⟨cx s 0, cx s 1, aG, aH, di⟩ (fun hHeld => ?_)
            clear hK K
            refine nrm 49 ?_
            refine pu 7 50 ?_
            refine tk 8 51 ?_
            refine pu 9 10 ?_
            refine dn ?_
            try go_wp2
            go_loopg [7, 11] k2 (fun kq v7 dj w' => ∃ (ac : List Int) (ap : List (S36)) (G : Int), dj = .int .i64 G ∧ Aside0 (spec_l3Dist.l2 kq ac ap L O (rd al ae) G J T = some r) ∧ Aside0 (kq ≤ k2) ∧ Aside0 (Kd.R (Kd.int .i64) 3 w' w.heap.size (fun _ => True) (.slice (some ⟨ak, 0, none⟩) al.length aC) ac) ∧ Aside0 (Kd.R k36 36 w' w.heap.size (fun k_ => some k_ ≠ (cJ : Value).ownBlock ∧ k_ ≠ an) v7 ap) ∧ Aside0 (Kd.R k36 36 w' w.heap.size (fun k_ => some k_ ≠ (v7 : Value).ownBlock ∧ k_ ≠ an) cJ O) ∧ Aside0 (w'.heap[ao]? = some (.cells #[(.slice af J.length ag), (.slice ah T.length ai)] 34 (0, 0))) ∧ Aside0 (w'.heap[an]? = some (.cells #[.int .i64 Y, .int .i64 Z] 36 (0, 0))) ∧ Aside0 (Below w.heap.size w w'))
            case atStart => exact ⟨(al), (ab), (0), eqs, H', ⟨Nat.le_refl _⟩, ⟨by (try simp only [hl5_2]); (with_reducible repeat (first | apply Kd.R_alloc | apply Kd.R_drewN | apply Kd.R_drew)); exact y.out⟩, ⟨by (try simp only [hl5_2]); (with_reducible repeat (first | apply Kd.R_alloc | apply Kd.R_drewN | apply Kd.R_drew)); exact Kd.R_mono I.out (fun _ hk => ⟨hk.2, hk.1⟩)⟩, ⟨by (try simp only [hl5_2]); (with_reducible repeat (first | apply Kd.R_alloc | apply Kd.R_drewN | apply Kd.R_drew)); exact Kd.R_mono aU.out (fun _ hk => ⟨hk.1.2, hk.2⟩)⟩, ⟨by (try simp only [hl5_2]); exact bf s.out⟩, ⟨by (try simp only [hl5_2]); exact bf D.out⟩, ⟨bs HB.out⟩⟩
            case round =>
             clear H'
             try clear c1
             try clear p1
             try clear q1
             try clear cV
             try clear c2
             try clear p2
             try clear q2
             try clear dT
             try clear c3
             try clear c6
             try clear p6
             try clear c7
             try clear bz
             try clear c8
             try clear c9
             try clear aQ
             try clear cg
             try clear aR
             try clear ch
             try clear az
             try clear aA
             try clear cW
             try clear cX
             try clear cY
             try clear dU
             try clear dV
             try clear dW
             try clear aD
             try clear cG
             try clear ba
             try clear cZ
             try clear bc
             try clear c5
             try clear be
             try clear da
             try clear b7 b8
             try clear ci cj
             try clear cl cm
             try clear cp ct
             try clear cv cy
             try clear b9
             try clear ck
             try clear cn
             try clear cu
             try clear cz
             try clear cF
             try clear bH
             try clear bI
             try clear bK
             try clear bL
             try clear aV
             try clear p1
             try clear az
             try clear p2
             try clear bi
             try clear bk
             try clear bm
             try clear p6
             try clear q1
             try clear aA
             try clear bj
             try clear bl
             try clear bn
             obtain ⟨ac, ap, G, rfl, HA, aW, y, I, X, s, D, HB⟩ := hrel
             have hl5_3 := (Kd.R_reads' y.out).1
             rw [hl5_3] at y
             (try simp only [hl5_3])
             (try simp only [hl5_3] at s)
             (try simp only [hl5_3] at D)
             (try simp only [hl5_3] at I)
             (try simp only [hl5_3] at X)
             cases gk with
             | zero => exact absurd HA.out (by simp [spec_l3Dist.l2])
             | succ k3 =>
              have H := HA.out
              clear HA
              simp only [spec_l3Dist.l2] at H
              by_cases aX : G < (O.length : Int)
              ·rw [if_pos aX] at H
               have dk : decide (G < (O.length : Int)) = true := decide_eq_true aX
               clear aX
               by_cases bo : 0 ≤ G
               ·rw [if_pos bo] at H
                have dX : decide (0 ≤ G) = true := decide_eq_true bo
                clear bo
                replace H := Option.bind_eq_some_iff.mp H
                obtain ⟨aa, cK, H⟩ := H
                try dsimp -simprocs only at H
                have cL := am cK
                clear cK
                by_cases br : 0 ≤ aa
                ·rw [if_pos br] at H
                 have dY : decide (0 ≤ aa) = true := decide_eq_true br
                 clear br
                 by_cases bt : aa < (ac.length : Int)
                 ·rw [if_pos bt] at H
                  have dZ : decide (aa < (ac.length : Int)) = true := decide_eq_true bt
                  clear bt
                  by_cases aY : (rd ac aa) < 0
                  ·rw [if_pos aY] at H
                   have dl : decide ((rd ac aa) < 0) = true := decide_eq_true aY
                   clear aY
                   obtain ⟨bu, bM⟩ : ∃ y_ : List Int, y_ = (ac.set (aa : Int).toNat (wrap64 ((rd al ae) + 1))) := ⟨_, rfl⟩
                   replace H : (if ap.length < 8796093022208 then (spec_l3Dist.l2 k3 bu (ap ++ [(⟨(rd_T36 O G).f0, (rd_T36 O G).f1⟩ : S36)]) L O (rd al ae) (wrap64 (G + 1)) J T) else (none)) = some r := by first | (rw [bM]; exact H) | exact H
                   have dm := am bM
                   clear bM
                   by_cases bv : ap.length < 8796093022208
                   ·rw [if_pos bv] at H
                    have dp := am bv
                    clear bv
                    obtain ⟨cM, bN⟩ : ∃ y_ : List (S36), y_ = (ap ++ [(⟨(rd_T36 O G).f0, (rd_T36 O G).f1⟩ : S36)]) := ⟨_, rfl⟩
                    replace H : (spec_l3Dist.l2 k3 bu cM L O (rd al ae) (wrap64 (G + 1)) J T) = some r := by first | (rw [bN]; exact H) | exact H
                    have dq := am bN
                    clear bN
                    have H' := am H
                    clear H
                    obtain ⟨d0, dr, dt⟩ := Kd.R_slice X.out
                    subst dt
                    try go_wp2
                    replace y := rd_ y
                    replace I := rd_ I
                    replace X := rd_ X
                    replace s := bd s
                    replace D := bd D
                    replace HB := hd HB
                    have aI : 0 ≤ (G : Int) := oda
                    have aJ : G < (O.length : Int) := oda
                    obtain ⟨aw, bO, bg, bh⟩ := at_T36 (Kd.R_reads' X.out).2.2 G aI aJ
                    cases bO
                    replace aI := eq_true aI
                    replace aJ := eq_true aJ
                    refine sta 7 (fun w' => w'.cell? ⟨ao, 0, none⟩ = some (.slice af J.length ag) ∧ w'.cell? ⟨ao, 1, none⟩ = some (.slice ah T.length ai) ∧ w'.cell? (aw.add ((G).toNat * 2)) = some (.int .i64 ((rd_T36 O G).f0)) ∧ w'.cell? ⟨(aw.add ((G).toNat * 2)).block, (aw.add ((G).toNat * 2)).off + 1, none⟩ = some (.int .i64 ((rd_T36 O G).f1))) [] ⟨cx s 0, cx s 1, bg, bh⟩ (fun hHeld => ?_)
                    generalize wr.drew = d1 at y I X s D HB bg bh hHeld ⊢
                    refine pu 1 59 ?_
                    refine pu 2 60 ?_
                    refine pu 3 61 ?_
                    refine tk 0 58 ?_
                    refine tk 4 62 ?_
                    refine on 5 63 (fun K hK => ?_)
                    refine gs Try.func62 #[.agg #[.slice af J.length ag, .slice ah T.length ai], .agg #[.int .i64 ((rd_T36 O G).f0), .int .i64 ((rd_T36 O G).f1)]] ?_
                    with_reducible refine (spec_l2At.calls k3 _ _ J _ _ T ((rd_T36 O G).f0) ((rd_T36 O G).f1) aa _ ?aq ?ar ?au ?av cL.out).mono ?_
                    (case aq => exact Kd.C_below aZ.out (bs HB.out))
                    (case ar => exact a4.out)
                    (case au => exact Kd.C_below a5.out (bs HB.out))
                    (case av => exact a6.out)
                    rintro e cN ⟨rfl, hb⟩
                    have aG := cw hb hHeld.2.2.1
                    have aH := cw hb hHeld.2.2.2
                    refine ⟨_, rfl, ?_⟩
                    replace y := rb y hb
                    replace I := rb I hb
                    replace X := rb X hb
                    replace s := bb s hb rfl
                    replace D := bb D hb rfl
                    replace HB := hs HB hb
                    (try clear hb)
                    (try clear hb2)
                    (try clear hk)
                    (try clear hi)
                    refine hK.out _ _ ⟨cx s 0, cx s 1, aG, aH⟩ (fun hHeld => ?_)
                    clear hK K
                    refine nrm 63 ?_
                    refine pu 6 12 ?_
                    refine dn ?_
                    have aK : 0 ≤ (aa : Int) := oda
                    have aM : aa < (ac.length : Int) := oda
                    obtain ⟨bP, bQ, aN⟩ := Kd.at_int (Kd.R_reads' y.out).2.2 aa aK aM
                    obtain rfl : (⟨ak, 0, none⟩ : Addr) = bP := (by injection bQ)
                    (first | simp only [add_plain] at aN | simp only [add_at] at aN | simp only [Addr.add, Nat.zero_add] at aN | skip)
                    replace aK := eq_true aK
                    replace aM := eq_true aM
                    have bR : 0 ≤ (aa : Int) := oda
                    have bS : (aa : Int) < ((ac.length : Int) : Int) := oda
                    obtain ⟨d2, d3⟩ := Kd.R_celln 0 y.out (aa : Int) bR bS
                    replace bR := eq_true bR
                    replace bS := eq_true bS
                    obtain ⟨hy48_, d4⟩ := Kd.R_celln 0 y.out (aa : Int) (oda) (oda)
                    have bT := Kd.R_putg y.out (aa : Int) (wrap64 ((rd al ae) + 1))
                    try go_wp2_with (first | ((with_reducible refine gate_store (t := 3) (p := 73) rfl ?_); refine store_event (t := 3) (p := 73) (v := ?vo_w49) (w1 := (cN.setCell ⟨ak, (aa : Int).toNat, none⟩ (.int .i64 (wrap64 ((rd al ae) + 1))))) ?hg ?ho ?hn ?hr ?_; (case ho => rfl); (case hg => rfl); (case hn => rfl); (case hr => first | (go_simp; done) | (go_simp; rfl)); intro bU hw; have hg : cN.grownBy bU (some ak) := (by rw [hw]; exact bT.2); have hp_ : Kd.R (Kd.int .i64) 3 bU w.heap.size (fun _ => True) (.slice (some ⟨ak, 0, none⟩) ac.length aC) bu := (by rw [hw, dm.out]; exact bT.1); clear bT; replace I := am (Kd.R_over' (v := (.slice (some ⟨ak, 0, none⟩) ac.length aC)) (rl I.out) (Kd.R_typed y.out) (by decide) hg); replace X := am (Kd.R_over' (v := (.slice (some ⟨ak, 0, none⟩) ac.length aC)) (rl X.out) (Kd.R_typed y.out) (by decide) hg); replace s := gr s y hg; replace D := gr D y hg; replace y := am hp_; replace HB := am ((by rw [hw]; exact below_set (HB.out) cE.out : Below w.heap.size w bU)); clear hg hw hp_; have bV : 0 ≤ (G : Int) := oda; have bW : G < (O.length : Int) := oda; obtain ⟨du, dv, d5, d6⟩ := at_T36 (Kd.R_reads' X.out).2.2 G bV bW; obtain rfl : aw = du := (by injection dv); replace bV := eq_true bV; replace bW := eq_true bW) | ((with_reducible refine gate_builtin (b := .append) (xs := #[.tmp 74, .tmp 79]) rfl ?_); at_builtin; refine Kd.R_append k36 (w0 := w) w.heap.size rfl (.tmp 74) (.tmp 79) 29 36 (.agg #[(.int .i64 0), (.int .i64 0)]) 16 rfl Try.underlying29 info36 rfl (by decide) (by omega) u7 ap (⟨(rd_T36 O G).f0, (rd_T36 O G).f1⟩ : S36) [.int .i64 ((rd_T36 O G).f0), .int .i64 ((rd_T36 O G).f1)] (fun k_ => some k_ ≠ (.slice (some aw) O.length dr : Value).ownBlock ∧ k_ ≠ an) (fun _ => False) rfl rfl ?aP (fun _ hk => hk.elim) ?aF ?aO ?aB ?aS ?aL ?_; (case aP => exact k36_mkM _ _ _ (⟨(rd_T36 O G).f0, (rd_T36 O G).f1⟩ : S36)); (case aB => exact (bs HB.out)); (case aF => exact (fun k_ hk => ⟨Kd.fresh' (rk X) k_ hk, Kd.freshB (g := an) (o := .cells #[.int .i64 Y, .int .i64 Z] 36 (0, 0)) (bf D.out) k_ hk⟩)); (case aO => exact (rl I.out)); (case aS => exact (below_size (bs HB.out))); (case aL => have := dp.out; omega); intro d7 d8 ho hb hg hat; rw [← dq.out] at ho; replace y := am (Kd.R_over' (rl y.out) (Kd.R_typed (rl I.out)) (by decide) hg); replace X := am (Kd.R_after (ok := (fun k_ => k_ ≠ an)) (by (with_reducible repeat (first | apply Kd.R_alloc | apply Kd.R_drewN | apply Kd.R_drew)); exact Kd.R_mono X.out (fun _ hk => ⟨hk.2, hk.1⟩)) hg hat); replace s := gr s I hg; replace D := am (blk_grown (g := an) (o := .cells #[.int .i64 Y, .int .i64 Z] 36 (0, 0)) (bf D.out) hg (Kd.R_away I.out (fun _ hk => hk.2))); replace HB := am hb; have dw := am ho; clear I; clear ho hb hg hat))
                    (try simp only [← hl5_3])
                    go_roundg k3
                    case measure => have := ay.out; have := aT.out; have := aW.out; omega
                    case rel => exact ⟨(bu), (cM), (wrap64 (G + 1)), eqs, H', ⟨by have := ay.out; have := aT.out; have := aW.out; omega⟩, ⟨by (try simp only [hl5_2]); (try simp only [hl5_3]); (with_reducible repeat (first | apply Kd.R_alloc | apply Kd.R_drewN | apply Kd.R_drew)); exact y.out⟩, ⟨by (try simp only [hl5_2]); (try simp only [hl5_3]); (with_reducible repeat (first | apply Kd.R_alloc | apply Kd.R_drewN | apply Kd.R_drew)); exact dw.out⟩, ⟨by (try simp only [hl5_2]); (try simp only [hl5_3]); (with_reducible repeat (first | apply Kd.R_alloc | apply Kd.R_drewN | apply Kd.R_drew)); exact Kd.R_mono X.out (fun _ hk => ⟨hk.2, hk.1⟩)⟩, ⟨by (try simp only [hl5_2]); (try simp only [hl5_3]); exact bf s.out⟩, ⟨by (try simp only [hl5_2]); (try simp only [hl5_3]); exact bf D.out⟩, ⟨bs HB.out⟩⟩
                   ·rw [if_neg bv] at H
                    exact absurd H (by simp)
                  ·rw [if_neg aY] at H
                   have dl : decide ((rd ac aa) < 0) = false := decide_eq_false aY
                   clear aY
                   have H' := am H
                   clear H
                   obtain ⟨d9, ea, dx⟩ := Kd.R_slice X.out
                   subst dx
                   try go_wp2
                   replace y := rd_ y
                   replace I := rd_ I
                   replace X := rd_ X
                   replace s := bd s
                   replace D := bd D
                   replace HB := hd HB
                   have aI : 0 ≤ (G : Int) := oda
                   have aJ : G < (O.length : Int) := oda
                   obtain ⟨aw, bO, bg, bh⟩ := at_T36 (Kd.R_reads' X.out).2.2 G aI aJ
                   cases bO
                   replace aI := eq_true aI
                   replace aJ := eq_true aJ
                   refine sta 7 (fun w' => w'.cell? ⟨ao, 0, none⟩ = some (.slice af J.length ag) ∧ w'.cell? ⟨ao, 1, none⟩ = some (.slice ah T.length ai) ∧ w'.cell? (aw.add ((G).toNat * 2)) = some (.int .i64 ((rd_T36 O G).f0)) ∧ w'.cell? ⟨(aw.add ((G).toNat * 2)).block, (aw.add ((G).toNat * 2)).off + 1, none⟩ = some (.int .i64 ((rd_T36 O G).f1))) [] ⟨cx s 0, cx s 1, bg, bh⟩ (fun hHeld => ?_)
                   generalize wr.drew = eb at y I X s D HB bg bh hHeld ⊢
                   refine pu 1 59 ?_
                   refine pu 2 60 ?_
                   refine pu 3 61 ?_
                   refine tk 0 58 ?_
                   refine tk 4 62 ?_
                   refine on 5 63 (fun K hK => ?_)
                   refine gs Try.func62 #[.agg #[.slice af J.length ag, .slice ah T.length ai], .agg #[.int .i64 ((rd_T36 O G).f0), .int .i64 ((rd_T36 O G).f1)]] ?_
                   with_reducible refine (spec_l2At.calls k3 _ _ J _ _ T ((rd_T36 O G).f0) ((rd_T36 O G).f1) aa _ ?aq ?ar ?au ?av cL.out).mono ?_
                   (case aq => exact Kd.C_below aZ.out (bs HB.out))
                   (case ar => exact a4.out)
                   (case au => exact Kd.C_below a5.out (bs HB.out))
                   (case av => exact a6.out)
                   rintro e ec ⟨rfl, hb⟩
                   have aG := cw hb hHeld.2.2.1
                   have aH := cw hb hHeld.2.2.2
                   refine ⟨_, rfl, ?_⟩
                   replace y := rb y hb
                   replace I := rb I hb
                   replace X := rb X hb
                   replace s := bb s hb rfl
                   replace D := bb D hb rfl
                   replace HB := hs HB hb
                   (try clear hb)
                   (try clear hb2)
                   (try clear hk)
                   (try clear hi)
                   refine hK.out _ _ ⟨cx s 0, cx s 1, aG, aH⟩ (fun hHeld => ?_)
                   clear hK K
                   refine nrm 63 ?_
                   refine pu 6 12 ?_
                   refine dn ?_
                   have aK : 0 ≤ (aa : Int) := oda
                   have aM : aa < (ac.length : Int) := oda
                   obtain ⟨bP, bQ, aN⟩ := Kd.at_int (Kd.R_reads' y.out).2.2 aa aK aM
                   obtain rfl : (⟨ak, 0, none⟩ : Addr) = bP := (by injection bQ)
                   (first | simp only [add_plain] at aN | simp only [add_at] at aN | simp only [Addr.add, Nat.zero_add] at aN | skip)
                   replace aK := eq_true aK
                   replace aM := eq_true aM
                   try go_wp2
                   (try simp only [← hl5_3])
                   go_roundg k3
                   case measure => have := ay.out; have := aT.out; have := aW.out; omega
                   case rel => exact ⟨(ac), (ap), (wrap64 (G + 1)), eqs, H', ⟨by have := ay.out; have := aT.out; have := aW.out; omega⟩, ⟨by (try simp only [hl5_2]); (try simp only [hl5_3]); (with_reducible repeat (first | apply Kd.R_alloc | apply Kd.R_drewN | apply Kd.R_drew)); exact y.out⟩, ⟨by (try simp only [hl5_2]); (try simp only [hl5_3]); (with_reducible repeat (first | apply Kd.R_alloc | apply Kd.R_drewN | apply Kd.R_drew)); exact I.out⟩, ⟨by (try simp only [hl5_2]); (try simp only [hl5_3]); (with_reducible repeat (first | apply Kd.R_alloc | apply Kd.R_drewN | apply Kd.R_drew)); exact X.out⟩, ⟨by (try simp only [hl5_2]); (try simp only [hl5_3]); exact bf s.out⟩, ⟨by (try simp only [hl5_2]); (try simp only [hl5_3]); exact bf D.out⟩, ⟨bs HB.out⟩⟩
                 ·rw [if_neg bt] at H
                  exact absurd H (by simp)
                ·rw [if_neg br] at H
                 exact absurd H (by simp)
               ·rw [if_neg bo] at H
                exact absurd H (by simp)
              ·rw [if_neg aX] at H
               have dk : decide (G < (O.length : Int)) = false := decide_eq_false aX
               clear aX
               have H' := am H
               clear H
               obtain ⟨ed, ee, dy⟩ := Kd.R_slice X.out
               subst dy
               go_wp2
               (try simp only [← hl5_2, ← hl5_3])
               go_roundg k3
               case measure => have := ay.out; have := aT.out; have := aW.out; omega
               case rel => exact ⟨(ac), (ap), (wrap64 (L + 1)), eqs, H', ⟨by have := ay.out; have := aT.out; have := aW.out; omega⟩, ⟨by (try simp only [hl5_2]); (try simp only [hl5_3]); (with_reducible repeat (first | apply Kd.R_alloc | apply Kd.R_drewN | apply Kd.R_drew)); exact y.out⟩, ⟨by (try simp only [hl5_2]); (try simp only [hl5_3]); (with_reducible repeat (first | apply Kd.R_alloc | apply Kd.R_drewN | apply Kd.R_drew)); exact Kd.R_mono I.out (fun _ hk => hk.2)⟩, ⟨by (try simp only [hl5_2]); (try simp only [hl5_3]); exact bf s.out⟩, ⟨by (try simp only [hl5_2]); (try simp only [hl5_3]); exact bf D.out⟩, ⟨bs HB.out⟩⟩
           ·rw [if_neg be] at H
            exact absurd H (by simp)
          ·rw [if_neg bc] at H
           exact absurd H (by simp)
         ·rw [if_neg ba] at H
          exact absurd H (by simp)
        ·rw [if_neg aD] at H
         have cG : decide (L < (ab.length : Int)) = false := decide_eq_false aD
         clear aD
         obtain rfl := Option.some.inj H
         obtain ⟨ef, eg, dz⟩ := Kd.R_slice I.out
         subst dz
         go_wp2
         go_ret
         exact ⟨_, eqr, by (with_reducible repeat (first | apply Kd.R_alloc | apply Kd.R_drewN | apply Kd.R_drew)); exact y.out, bs HB.out⟩
     ·rw [if_neg aR] at H
      exact absurd H (by simp)
    ·rw [if_neg aQ] at H
     exact absurd H (by simp)

end Go.Proofs.Ytohmemckdogljaa.QFnExactWalkPath
