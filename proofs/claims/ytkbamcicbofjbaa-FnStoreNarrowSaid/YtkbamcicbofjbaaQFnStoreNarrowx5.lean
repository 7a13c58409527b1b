/- Contracts of the Go functions that this law reaches: each does what its plain Lean function says. No condition. -/
import Derived.Test.YtkbamcicbofjbaaQFnStoreNarrowx0
import Derived.Test.YtkbamcicbofjbaaQFnStoreNarrowx4
namespace Go.Proofs.Ytkbamcicbofjbaa.QFnStoreNarrow
open Go.RowKit Go.Proofs.YtkbamcicbofjbaaW.PrintWords Go.Proofs.YtkbamcicbofjbaaW.PrintLast Go.Proofs.YtkbamcicbofjbaaW.PrintMore Go.Proofs.Ytkbamcicbofjbaa.Bl
attribute [local go_sem] max2_int min2_int max_two min_two max_three min_three max_four min_four   -- for this text's walks alone
set_option linter.unusedVariables false
set_option linter.unusedSimpArgs false
set_option maxHeartbeats 8000000
set_option maxRecDepth 100000

/-! ### spec_l4Bent: function 11 -/
def spec_l4Bent.j0 : Nat → List (S42) → Int → Bool → List Int → Int → Option ((List (S42)) × Int)
 | 0, _, _, _, _, _ => none
 | k + 1, s, O, T, D, I => if T = true then (some (s, I)) else ((spec_l9Rd_pick.f k D I O).bind fun y => ((spec_l9Rd_pick.f k D y.2 5).bind fun z => (if z.1 = 0 then (if 0 ≤ y.1 then (if y.1 < (s.length : Int) then (if s.length < 5864062014805 then (some ((s ++ [(⟨(rd_T42 s y.1).f0, (rd_T42 s y.1).f1⟩ : S42)]), z.2)) else (none)) else (none)) else (none)) else (if z.1 = 1 then ((spec_l9Rd_num.f k D z.2 (([0, 8, (-1), 5] : List Int))).bind fun J => (if 0 ≤ y.1 then (if y.1 < (s.length : Int) then (some ((s.set (y.1 : Int).toNat (⟨J.1, (rd_T42 s y.1).f1⟩ : S42)), J.2)) else (none)) else (none))) else (if z.1 = 2 then (if 1 ≤ (s.length : Int) then (some ((s.drop (1 : Int).toNat), z.2)) else (none)) else (if z.1 = 3 then (if 0 ≤ y.1 then (if y.1 < (s.length : Int) then ((spec_l9Rd_pick.f k D z.2 (((rd_T42 s y.1).f1).size : Int)).bind fun G => (if 0 ≤ G.1 then (if G.1 ≤ (((rd_T42 s y.1).f1).size : Int) then (some ((s.set (y.1 : Int).toNat (⟨(rd_T42 s y.1).f0, ((rd_T42 s y.1).f1).extract 0 (G.1 : Int).toNat⟩ : S42)), G.2)) else (none)) else (none))) else (none)) else (none)) else (if 0 ≤ y.1 then (if y.1 < (s.length : Int) then ((spec_l4Torn.f k D z.2 ((rd_T42 s y.1).f1)).bind fun L => (some ((s.set (y.1 : Int).toNat (⟨(rd_T42 s y.1).f0, L.1⟩ : S42)), L.2))) else (none)) else (none))))))))
def spec_l4Bent.f (k : Nat) (y : List Int) (z : Int) (l1 : List (S42)) : Option ((List (S42)) × Int) := (some (([] : List (S42)) : List (S42))).bind fun D => (if D.length + l1.length < 5864062014805 then ((some (D ++ l1 : List (S42))).bind fun s => (if (s.length : Int) = 0 then (spec_l4Bent.j0 k s (s.length : Int) true y z) else ((spec_l9Rd_pick.f k y z 3).bind fun G => (spec_l4Bent.j0 k s (s.length : Int) (decide (G.1 > 0)) y G.2)))) else (none))
theorem spec_l4Bent.calls (k : Nat) (g : Nat) (I : List Int) (ah : Int) (A1 : Option Addr) (c1 : Nat) (l1 : List (S42)) (Y : List (S42)) (Z : Int) (w0 w : World) (hI : IsS46 w0 w g I ah) (hB : Below w0.heap.size w0 w) (bV : ∀ W_, KeepBut w W_ g none → Kd.C k42 W_ A1 l1.length l1) (bW : l1.length ≤ c1) (h : spec_l4Bent.f k I ah l1 = some (Y, Z)) :
  Calls Try.prog 11 #[.pointer (some ⟨g, 0, none⟩), .slice A1 l1.length c1] w fun e w' => ∃ bX : Value, e = .returned (bX) ∧ Kd.Q k42 42 w' w.heap.size (fun _ => True) bX Y ∧ IsS46 w0 w' g I Z ∧ Below w0.heap.size w0 w' ∧ KeepBut w w' g none := by
 have hu42 := Try.underlying42
 have cP := am bV
 have dR := am bW
 clear bV bW
 have z := am hI
 have GEg_ : Ge w0 g := ⟨IsS46.ge z.out⟩
 have HK := am (KeepBut.refl w g none)
 have HL := am hB.size
 clear hI
 have dS := am hB.size
 have HB := am hB
 clear hB
 have H := h; unfold spec_l4Bent.f at H
 clear h
 obtain ⟨az, a9⟩ : ∃ y_ : List (S42), y_ = (([] : List (S42))) := ⟨_, rfl⟩
 replace H : (if az.length + l1.length < 5864062014805 then ((some (az ++ l1 : List (S42))).bind fun s => (if (s.length : Int) = 0 then (spec_l4Bent.j0 k s (s.length : Int) true I ah) else ((spec_l9Rd_pick.f k I ah 3).bind fun aA => (spec_l4Bent.j0 k s (s.length : Int) (decide (aA.1 > 0)) I aA.2)))) else (none)) = some (Y, Z) := by first | (rw [a9]; exact H) | exact H
 have bY := am a9
 clear a9
 by_cases c3 : az.length + l1.length < 5864062014805
 ·rw [if_pos c3] at H
  have cQ := am c3
  clear c3
  obtain ⟨s, ba⟩ : ∃ y_ : List (S42), y_ = (az ++ l1) := ⟨_, rfl⟩
  replace H : (if (s.length : Int) = 0 then (spec_l4Bent.j0 k s (s.length : Int) true I ah) else ((spec_l9Rd_pick.f k I ah 3).bind fun aA => (spec_l4Bent.j0 k s (s.length : Int) (decide (aA.1 > 0)) I aA.2))) = some (Y, Z) := by first | (rw [ba]; exact H) | exact H
  have cR := am ba
  clear ba
  have bc := am H
  clear H
  go_enter Try.func11, Try.ntmps11
  go_upto_region 3 with (first | ((with_reducible refine gd 9 rfl ?_); refine Kd.R_lit k42 _ 42 ?hg (N := 9) ?hd (xs := ([] : List (S42))) (inner := []) (ok := fun _ => True) (okp := fun _ => True) ?hr ?hp (fun _ hk => hk) trivial (Below.refl _ _) (Nat.le_refl _) (by simp) ?_; (case hd => rfl); (case hg => rfl); (case hr => first | (go_simp; done) | (go_simp; rfl)); (case hp => exact (Reps.none _ _)); intro cS w5 aB hb hg_ hnew_; clear hg_ hnew_; (first | rw [← bY.out] at aB | (simp only [Int.reduceToNat] at aB; rw [← bY.out] at aB)); have aQ := am (Kd.R_lower aB (keep_size (w := w) (g := g) (row := none) (ks HK.out))); replace z := ib z hb; replace HK := kb HK hb; replace HB := hs HB hb; clear hb aB) | ((with_reducible refine gate_builtin (b := .append) (xs := #[.tmp 9, .tmp 10]) rfl ?_); at_builtin; refine Kd.R_append_rows k42 w.heap.size rfl (.tmp 9) (.tmp 10) 23 42 (.agg #[(.int .i64 0), (.string ⟨#[]⟩)]) 24 rfl Try.underlying23 info42 rfl (by decide) (by omega) cS az l1 _ _ _ (fun _ => True) (fun _ => False) rfl rfl ?aO ?aR (fun _ _ h => h) (fun _ h => h.elim) ?aF (Below.refl _ _) ?aS ?aL ?_; (case aR => exact Kd.C_foot_now cP.out (ks HK.out)); (case aF => exact (fun _ _ => trivial)); (case aO => exact (rl aQ.out)); (case aS => exact (keep_size (w := w) (g := g) (row := none) (ks HK.out))); (case aL => have := cQ.out; omega); intro dT w7 ho hb hg hat; rw [← cR.out] at ho; replace z := am (IsS46.grown (iis z.out) hg (IsS46.own_ne z.out aQ.out (by decide))); replace HB := am (below_weaken (bs HB.out) HL.out hb); replace HK := am (KeepBut.trans (ks HK.out) (KeepBut.of_grown hg g) (Kd.R_base2 aQ.out)); have aC := am ho; clear aQ; clear ho hb hg hat; obtain ⟨av, aa, cT⟩ := Kd.R_slice aC.out; subst cT))
  (try simp only [Act.put, List.setIfInBounds_toArray, List.set_cons_zero, List.set_cons_succ])
  go_cut [20] (fun cU wc => ∃ (kq : Nat) (aT : Bool) (ac : Int), cU = .bool aT ∧ Aside0 (spec_l4Bent.j0 kq s (s.length : Int) aT I ac = some (Y, Z)) ∧ Aside0 (kq ≤ k) ∧ Aside0 (Kd.R k42 42 wc w.heap.size (fun _ => True) (.slice av s.length aa) s) ∧ Aside0 (IsS46 w0 wc g I ac) ∧ Aside0 (KeepBut w wc g none) ∧ Aside0 (Below w0.heap.size w0 wc))
  case first =>
   have H := bc.out
   clear bc
   by_cases c9 : (s.length : Int) = 0
   ·rw [if_pos c9] at H
    have aw : ((s.length : Int) == 0) = true := beq_iff_eq.mpr c9
    have bZ : ((s.length : Int) != 0) = false := bne_eq_false_iff_eq.mpr c9
    clear c9
    (first | rw [aw] | (simp only [i64_w, i32_w]; rw [aw]) | skip)
    have H' := am H
    clear H
    go_wp2
    go_meet
    case rel => exact ⟨_, (true), (ah), eqs, H', ⟨by first | omega | exact Nat.le_refl _⟩, ⟨rl aC.out⟩, ⟨iis z.out⟩, ⟨ks HK.out⟩, ⟨bs HB.out⟩⟩
   ·rw [if_neg c9] at H
    have aw : ((s.length : Int) == 0) = false := beq_eq_false_iff_ne.mpr c9
    have bZ : ((s.length : Int) != 0) = true := bne_iff_ne.mpr c9
    have cV : ¬ (s = []) := fun h_ => c9 (by rw [h_]; rfl)
    (first | rw [aw] | (simp only [i64_w, i32_w]; rw [aw]) | skip)
    replace H := Option.bind_eq_some_iff.mp H
    obtain ⟨⟨b0, b1⟩, b2, H⟩ := H
    try dsimp -simprocs only at H
    have cW := am b2
    clear b2
    have H' := am H
    clear H
    go_wp2_with (first | (go_at_call 18; (with_reducible refine (spec_l9Rd_pick.calls k g I ah 3 b0 b1 w0 _ ?J ?L cW.out).mono ?_); (case J => exact iis z.out); (case L => exact bs HB.out); rintro e dU ⟨rfl, hi, hb, hk⟩; replace aC := ro aC z hk; replace HK := kt HK hk; replace HB := am hb; replace z := am hi; (try clear hi hb hk)))
    go_meet
    case rel => exact ⟨_, (decide (b0 > 0)), (b1), eqs, H', ⟨by first | omega | exact Nat.le_refl _⟩, ⟨rl aC.out⟩, ⟨iis z.out⟩, ⟨ks HK.out⟩, ⟨bs HB.out⟩⟩
  case rest =>
   clear bc
   try clear c1
   try clear p2
   try clear c3
   try clear c9
   try clear aw
   try clear bZ
   try clear cV
   try clear dV
   obtain ⟨kq, aT, ac, rfl, HA, dW, D, z, HK, HB⟩ := hcut
   cases kq with
   | zero => exact absurd HA.out (by simp [spec_l4Bent.j0])
   | succ X =>
    have H := HA.out
    clear HA
    simp only [spec_l4Bent.j0] at H
    by_cases aU : aT = true
    ·subst aU
     replace H : (some (s, ac)) = some (Y, Z) := by rw [if_pos rfl] at H; exact H
     simp only [Option.some.injEq, Prod.mk.injEq] at H
     obtain ⟨rfl, rfl⟩ := H
     go_wp2
     go_ret
     exact ⟨_, eqr, Kd.Q_of_R (rl D.out), iis z.out, bs HB.out, ks HK.out⟩
    ·replace aU := Bool.eq_false_iff.mpr aU
     subst aU
     have H1 : ((spec_l9Rd_pick.f X I ac (s.length : Int)).bind fun T => ((spec_l9Rd_pick.f X I T.2 5).bind fun af => (if af.1 = 0 then (if 0 ≤ T.1 then (if T.1 < (s.length : Int) then (if s.length < 5864062014805 then (some ((s ++ [(⟨(rd_T42 s T.1).f0, (rd_T42 s T.1).f1⟩ : S42)]), af.2)) else (none)) else (none)) else (none)) else (if af.1 = 1 then ((spec_l9Rd_num.f X I af.2 (([0, 8, (-1), 5] : List Int))).bind fun aD => (if 0 ≤ T.1 then (if T.1 < (s.length : Int) then (some ((s.set (T.1 : Int).toNat (⟨aD.1, (rd_T42 s T.1).f1⟩ : S42)), aD.2)) else (none)) else (none))) else (if af.1 = 2 then (if 1 ≤ (s.length : Int) then (some ((s.drop (1 : Int).toNat), af.2)) else (none)) else (if af.1 = 3 then (if 0 ≤ T.1 then (if T.1 < (s.length : Int) then ((spec_l9Rd_pick.f X I af.2 (((rd_T42 s T.1).f1).size : Int)).bind fun aV => (if 0 ≤ aV.1 then (if aV.1 ≤ (((rd_T42 s T.1).f1).size : Int) then (some ((s.set (T.1 : Int).toNat (⟨(rd_T42 s T.1).f0, ((rd_T42 s T.1).f1).extract 0 (aV.1 : Int).toNat⟩ : S42)), aV.2)) else (none)) else (none))) else (none)) else (none)) else (if 0 ≤ T.1 then (if T.1 < (s.length : Int) then ((spec_l4Torn.f X I af.2 ((rd_T42 s T.1).f1)).bind fun b3 => (some ((s.set (T.1 : Int).toNat (⟨(rd_T42 s T.1).f0, b3.1⟩ : S42)), b3.2))) else (none)) else (none)))))))) = some (Y, Z) := by rw [if_neg (show ¬ (false = true) by decide)] at H; exact H
     clear H
     have H := H1
     clear H1
     replace H := Option.bind_eq_some_iff.mp H
     obtain ⟨⟨y, ad⟩, b4, H⟩ := H
     try dsimp -simprocs only at H
     have aE := am b4
     clear b4
     replace H := Option.bind_eq_some_iff.mp H
     obtain ⟨⟨O, ab⟩, b5, H⟩ := H
     try dsimp -simprocs only at H
     have aG := am b5
     clear b5
     by_cases al : O = 0
     ·rw [if_pos al] at H
      have cX : (O == 0) = true := beq_iff_eq.mpr al
      have cY : (O != 0) = false := bne_eq_false_iff_eq.mpr al
      clear al
      by_cases aW : 0 ≤ y
      ·rw [if_pos aW] at H
       have dX : decide (0 ≤ y) = true := decide_eq_true aW
       clear aW
       by_cases aX : y < (s.length : Int)
       ·rw [if_pos aX] at H
        have dY : decide (y < (s.length : Int)) = true := decide_eq_true aX
        clear aX
        by_cases aY : s.length < 5864062014805
        ·rw [if_pos aY] at H
         have cZ := am aY
         clear aY
         obtain ⟨c0, be⟩ : ∃ y_ : List (S42), y_ = (s ++ [(⟨(rd_T42 s y).f0, (rd_T42 s y).f1⟩ : S42)]) := ⟨_, rfl⟩
         replace H : (some (c0, ab)) = some (Y, Z) := by first | (rw [be]; exact H) | exact H
         have c2 := am be
         clear be
         simp only [Option.some.injEq, Prod.mk.injEq] at H
         obtain ⟨rfl, rfl⟩ := H
         go_wp2_with (first | ((with_reducible refine gc 18 rfl ?_); refine gl 24 Try.func18 #[.pointer (some ⟨g, 0, none⟩), .int .i64 (s.length : Int)] ?_; (with_reducible refine (spec_l9Rd_pick.calls X g I ac (s.length : Int) y ad w0 _ ?J ?L aE.out).mono ?_); (case J => exact iis z.out); (case L => exact bs HB.out); rintro e dZ ⟨rfl, hi, hb, hk⟩; refine ⟨_, rfl, ?_⟩; replace D := ro D z hk; replace HK := kt HK hk; replace HB := am hb; replace z := am hi; (try clear hi hb hk)) | ((with_reducible refine gc 18 rfl ?_); refine gl 26 Try.func18 #[.pointer (some ⟨g, 0, none⟩), .int .i64 5] ?_; (with_reducible refine (spec_l9Rd_pick.calls X g I ad 5 O ab w0 _ ?J ?L aG.out).mono ?_); (case J => exact iis z.out); (case L => exact bs HB.out); rintro e d0 ⟨rfl, hi, hb, hk⟩; refine ⟨_, rfl, ?_⟩; replace D := ro D z hk; replace HK := kt HK hk; replace HB := am hb; replace z := am hi; (try clear hi hb hk); have bg : 0 ≤ (y : Int) := oda; have bh : y < (s.length : Int) := oda; obtain ⟨c4, c5, d1, d2⟩ := at_T42 (Kd.R_reads' D.out).2.2 y bg bh; cases c5; replace bg := eq_true bg; replace bh := eq_true bh) | ((with_reducible refine gate_builtin (b := .append) (xs := #[.tmp 40, .tmp 45]) rfl ?_); at_builtin; refine Kd.R_append k42 w.heap.size rfl (.tmp 40) (.tmp 45) 23 42 (.agg #[(.int .i64 0), (.string ⟨#[]⟩)]) 24 rfl Try.underlying23 info42 rfl (by decide) (by omega) (.slice (some c4) s.length aa) s (⟨(rd_T42 s y).f0, (rd_T42 s y).f1⟩ : S42) [.int .i64 ((rd_T42 s y).f0), .string ((rd_T42 s y).f1)] (fun _ => True) (fun _ => False) rfl rfl ?aP (fun _ hk => hk.elim) ?aF ?aO (Below.refl _ _) ?aS ?aL ?_; (case aP => exact k42_mkM _ _ _ (⟨(rd_T42 s y).f0, (rd_T42 s y).f1⟩ : S42)); (case aF => exact (fun _ _ => trivial)); (case aO => exact (rl D.out)); (case aS => exact (keep_size (w := w) (g := g) (row := none) (ks HK.out))); (case aL => have := cZ.out; omega); intro d3 d4 ho hb hg hat; rw [← c2.out] at ho; replace z := am (IsS46.grown (iis z.out) hg (IsS46.own_ne z.out D.out (by decide))); replace HB := am (below_weaken (bs HB.out) HL.out hb); replace HK := am (KeepBut.trans (ks HK.out) (KeepBut.of_grown hg g) (Kd.R_base2 D.out)); have c6 := am ho; clear D; clear ho hb hg hat))
         go_ret
         exact ⟨_, eqr, Kd.Q_of_R (rl c6.out), iis z.out, bs HB.out, ks HK.out⟩
        ·rw [if_neg aY] at H
         exact absurd H (by simp)
       ·rw [if_neg aX] at H
        exact absurd H (by simp)
      ·rw [if_neg aW] at H
       exact absurd H (by simp)
     ·rw [if_neg al] at H
      have cX : (O == 0) = false := beq_eq_false_iff_ne.mpr al
      have cY : (O != 0) = true := bne_iff_ne.mpr al
      by_cases an : O = 1
      ·rw [if_pos an] at H
       have c7 : (O == 1) = true := beq_iff_eq.mpr an
       have c8 : (O != 1) = false := bne_eq_false_iff_eq.mpr an
       clear an
       obtain ⟨bi, bj⟩ : ∃ y_ : List Int, y_ = (([0, 8, (-1), 5] : List Int)) := ⟨_, rfl⟩
       replace H : ((spec_l9Rd_num.f X I ab bi).bind fun aD => (if 0 ≤ y then (if y < (s.length : Int) then (some ((s.set (y : Int).toNat (⟨aD.1, (rd_T42 s y).f1⟩ : S42)), aD.2)) else (none)) else (none))) = some (Y, Z) := by first | (rw [bj]; exact H) | exact H
       have b6 := am bj
       clear bj
       replace H := Option.bind_eq_some_iff.mp H
       obtain ⟨⟨ax, b7⟩, b8, H⟩ := H
       try dsimp -simprocs only at H
       have da := am b8
       clear b8
       by_cases aZ : 0 ≤ y
       ·rw [if_pos aZ] at H
        have d5 : decide (0 ≤ y) = true := decide_eq_true aZ
        clear aZ
        by_cases a3 : y < (s.length : Int)
        ·rw [if_pos a3] at H
         have d6 : decide (y < (s.length : Int)) = true := decide_eq_true a3
         clear a3
         obtain ⟨b9, bk⟩ : ∃ y_ : List (S42), y_ = (s.set (y : Int).toNat (⟨ax, (rd_T42 s y).f1⟩ : S42)) := ⟨_, rfl⟩
         replace H : (some (b9, b7)) = some (Y, Z) := by first | (rw [bk]; exact H) | exact H
         have db := am bk
         clear bk
         simp only [Option.some.injEq, Prod.mk.injEq] at H
         obtain ⟨rfl, rfl⟩ := H
         go_wp2_with (first | ((with_reducible refine gc 18 rfl ?_); refine gl 24 Try.func18 #[.pointer (some ⟨g, 0, none⟩), .int .i64 (s.length : Int)] ?_; (with_reducible refine (spec_l9Rd_pick.calls X g I ac (s.length : Int) y ad w0 _ ?J ?L aE.out).mono ?_); (case J => exact iis z.out); (case L => exact bs HB.out); rintro e d7 ⟨rfl, hi, hb, hk⟩; refine ⟨_, rfl, ?_⟩; replace D := ro D z hk; replace HK := kt HK hk; replace HB := am hb; replace z := am hi; (try clear hi hb hk)) | ((with_reducible refine gc 18 rfl ?_); refine gl 26 Try.func18 #[.pointer (some ⟨g, 0, none⟩), .int .i64 5] ?_; (with_reducible refine (spec_l9Rd_pick.calls X g I ad 5 O ab w0 _ ?J ?L aG.out).mono ?_); (case J => exact iis z.out); (case L => exact bs HB.out); rintro e d8 ⟨rfl, hi, hb, hk⟩; refine ⟨_, rfl, ?_⟩; replace D := ro D z hk; replace HK := kt HK hk; replace HB := am hb; replace z := am hi; (try clear hi hb hk)) | ((with_reducible refine gd 52 rfl ?_); refine Kd.R_lit (Kd.int .i64) _ 3 ?hg (N := 52) ?hd (xs := ([0, 8, (-1), 5] : List Int)) (inner := [.int .i64 0, .int .i64 8, .int .i64 (-1), .int .i64 5]) (ok := fun _ => True) (okp := fun _ => True) ?hr ?hp (fun _ hk => hk) trivial (Below.refl _ _) (Nat.le_refl _) (by simp) ?_; (case hd => rfl); (case hg => rfl); (case hr => first | (go_simp; done) | (go_simp; rfl)); (case hp => exact (Reps.one (show Kd.M (Kd.int .i64) _ _ _ 0 [.int .i64 0] from rfl) (Reps.one (show Kd.M (Kd.int .i64) _ _ _ 8 [.int .i64 8] from rfl) (Reps.one (show Kd.M (Kd.int .i64) _ _ _ (-1) [.int .i64 (-1)] from rfl) (Reps.one (show Kd.M (Kd.int .i64) _ _ _ 5 [.int .i64 5] from rfl) (Reps.none _ _)))))); intro d9 ea aH hb hg_ hnew_; clear hg_ hnew_; (first | rw [← b6.out] at aH | (simp only [Int.reduceToNat] at aH; rw [← b6.out] at aH)); replace D := rb D hb; have ai := am (Kd.R_lower aH (keep_size (w := w) (g := g) (row := none) (ks HK.out))); replace z := ib z hb; replace HK := kb HK hb; replace HB := hs HB hb; clear hb aH; obtain ⟨dc, dd, de⟩ := Kd.R_slice ai.out; subst de) | ((with_reducible refine gc 19 rfl ?_); refine gl 53 Try.func19 #[.pointer (some ⟨g, 0, none⟩), .slice dc bi.length dd] ?_; (with_reducible refine (spec_l9Rd_num.calls X g I ab _ _ bi ax b7 w0 _ ?J ?L ?df ?dg ?dh da.out).mono ?_); (case J => exact iis z.out); (case L => exact bs HB.out); (case df => exact cr ai); (case dg => exact cc ai); (case dh => exact far_slice (IsS46.own_ne z.out ai.out (by decide))); rintro e ao ⟨rfl, hi, hb, hk⟩; refine ⟨_, rfl, ?_⟩; replace D := ro D z hk; replace ai := ro ai z hk; replace HK := kt HK hk; replace HB := am hb; replace z := am hi; (try clear hi hb hk); have bl : 0 ≤ (y : Int) := oda; have bm : (y : Int) < ((s.length : Int) : Int) := oda; obtain ⟨ag, eb, ce, cf, di, ec, cg⟩ := Kd.R_form D.out (by omega); (first | cases ce | (injection ce with ea_ en_ ec_; (first | subst ea_ | (injection ea_ with ea_; subst ea_)); subst ec_; clear en_)); have dj := am cf; have ed := am cg; clear cf di cg; obtain ⟨ee, dk, ch, bn, bo⟩ := Kd.R_elem D.out z42 (y : Int) bl bm; obtain rfl := k42_openM ch; have ef : ao.cell? ⟨ag, (y : Int).toNat * 2, none⟩ = some (.int .i64 ((rd_T42 s y).f0)) := bn 0 _ rfl; have eg : ao.cell? ⟨ag, (y : Int).toNat * 2 + 1, none⟩ = some (.string ((rd_T42 s y).f1)) := bn 1 _ rfl; have eh : ao.frozen? ⟨ag, (y : Int).toNat * 2, none⟩ = false := bo 0; have ei : ao.frozen? ⟨ag, (y : Int).toNat * 2 + 1, none⟩ = false := bo 1; clear dk bn bo ch; replace bl := eq_true bl; replace bm := eq_true bm; have HX33 := am (show Kd.R k42 42 ao w.heap.size (fun _ => True) (.slice (some ⟨ag, 0, none⟩) s.length aa) s from (rl D.out)); obtain ⟨ej, ci, cj, br, ck⟩ := Kd.R_elem HX33.out z42 (y : Int) (oda) (by have h_ : (y : Int) < ((s.length : Int) : Int) := oda; first | exact h_ | (have e_ := (Kd.R_reads' D.out).1; omega) | simpa using h_); obtain rfl := k42_openM cj; have bt := Kd.R_seg HX33.out (y : Int) (oda) (by have h_ : (y : Int) < ((s.length : Int) : Int) := oda; first | exact h_ | (have e_ := (Kd.R_reads' D.out).1; omega) | simpa using h_) (seg := [.int .i64 ax]) (j := 0) ci br (show 1 ≤ 2 from by decide) (x' := (⟨ax, (rd_T42 s y).f1⟩ : S42)) (k42_mkM _ _ _ (⟨ax, (rd_T42 s y).f1⟩ : S42) ) (fun _ hk => hk); have dl := br 0 _ rfl; (try simp only [show (k42).sz = 2 from rfl, Nat.mul_one, Nat.add_zero] at dl); have dm := ck 0; (try simp only [show (k42).sz = 2 from rfl, Nat.mul_one, Nat.add_zero] at dm); clear ci br ck cj) | ((with_reducible refine gate_store (t := 3) (p := 55) rfl ?_); refine store_event (t := 3) (p := 55) (v := ?vo_w34) (w1 := (ao.setCell ⟨ag, (y : Int).toNat * 2, none⟩ (.int .i64 ax))) ?hg ?ho ?hn ?hr ?_; (case ho => rfl); (case hg => rfl); (case hn => rfl); (case hr => first | (go_simp; done) | (go_simp; rfl)); intro bu hw; have hg : ao.grownBy bu (some ag) := (by rw [hw]; exact bt.2); have hp_ : Kd.R k42 42 bu w.heap.size (fun _ => True) (.slice (some ⟨ag, 0, none⟩) s.length aa) b9 := (by rw [hw, db.out]; exact bt.1); clear bt; replace z := am (IsS46.grown (iis z.out) hg (IsS46.own_ne z.out D.out (by decide))); replace ai := am (Kd.R_over' (v := (.slice (some ⟨ag, 0, none⟩) s.length aa)) (rl ai.out) (Kd.R_typed D.out) (by decide) hg); replace HB := am ((by rw [hw]; exact below_set (HB.out) (Nat.le_trans HL.out dj.out) : Below w0.heap.size w0 bu)); replace HK := am (KeepBut.trans (ks HK.out) (KeepBut.of_grown hg g) (Kd.R_base2 D.out)); replace D := am hp_; clear hg hw hp_))
         go_ret
         exact ⟨_, eqr, Kd.Q_of_R (rl D.out), iis z.out, bs HB.out, ks HK.out⟩
        ·rw [if_neg a3] at H
         exact absurd H (by simp)
       ·rw [if_neg aZ] at H
        exact absurd H (by simp)
      ·rw [if_neg an] at H
       have c7 : (O == 1) = false := beq_eq_false_iff_ne.mpr an
       have c8 : (O != 1) = true := bne_iff_ne.mpr an
       by_cases ap : O = 2
       ·rw [if_pos ap] at H
        have dp : (O == 2) = true := beq_iff_eq.mpr ap
        have dq : (O != 2) = false := bne_eq_false_iff_eq.mpr ap
        clear ap
        by_cases aI : 1 ≤ (s.length : Int)
        ·rw [if_pos aI] at H
         have ek := eq_true aI
         have el : decide (1 ≤ (s.length : Int)) = true := decide_eq_true aI
         clear aI
         obtain ⟨aJ, bv⟩ : ∃ y_ : List (S42), y_ = (s.drop (1 : Int).toNat) := ⟨_, rfl⟩
         replace H : (some (aJ, ab)) = some (Y, Z) := by first | (rw [bv]; exact H) | exact H
         have cl := am bv
         clear bv
         simp only [Option.some.injEq, Prod.mk.injEq] at H
         obtain ⟨rfl, rfl⟩ := H
         go_wp2_with (first | ((with_reducible refine gc 18 rfl ?_); refine gl 24 Try.func18 #[.pointer (some ⟨g, 0, none⟩), .int .i64 (s.length : Int)] ?_; (with_reducible refine (spec_l9Rd_pick.calls X g I ac (s.length : Int) y ad w0 _ ?J ?L aE.out).mono ?_); (case J => exact iis z.out); (case L => exact bs HB.out); rintro e em ⟨rfl, hi, hb, hk⟩; refine ⟨_, rfl, ?_⟩; replace D := ro D z hk; replace HK := kt HK hk; replace HB := am hb; replace z := am hi; (try clear hi hb hk)) | ((with_reducible refine gc 18 rfl ?_); refine gl 26 Try.func18 #[.pointer (some ⟨g, 0, none⟩), .int .i64 5] ?_; (with_reducible refine (spec_l9Rd_pick.calls X g I ad 5 O ab w0 _ ?J ?L aG.out).mono ?_); (case J => exact iis z.out); (case L => exact bs HB.out); rintro e dr ⟨rfl, hi, hb, hk⟩; refine ⟨_, rfl, ?_⟩; replace D := ro D z hk; replace HK := kt HK hk; replace HB := am hb; replace z := am hi; (try clear hi hb hk); have bw : (1 : Int) ≤ ((s.length : Int) : Int) := oda; obtain ⟨en, cm, _, cn, _⟩ := info_parts info42; have dt := cut_from (P := Try.prog) 23 42 .i64 Try.underlying23 cm 2 cn av s.length aa 1 (by omega) bw; have aK := Kd.Q_drop (k := (1 : Int).toNat) (Kd.Q_of_R D.out) (by omega); obtain ⟨co, a4⟩ : ∃ A1, A1 = (if aa = (1 : Int).toNat then av else (av : Option Addr).map (·.add ((1 : Int).toNat * 2))) := ⟨_, rfl⟩; obtain ⟨cp, bz⟩ : ∃ c1, c1 = aa - (1 : Int).toNat := ⟨_, rfl⟩; have bA : aJ.length = s.length - (1 : Int).toNat := (by rw [cl.out, List.length_drop]); rw [← cl.out] at aK; rw [← bA, ← a4, ← bz] at dt; replace aK : Kd.Q k42 42 dr w.heap.size (fun _ => True) (.slice co aJ.length cp) aJ := (by rw [a4, bz, bA]; exact aK); have eo : Aside0 ((Value.slice co aJ.length cp).ownBlock = (.slice av s.length aa : Value).ownBlock) := ⟨by rw [a4]; split <;> (cases (av : Option Addr) <;> rfl)⟩; clear bA cm cn D a4 bz; have du := am aK; clear aK; replace bw := eq_true bw))
         go_ret
         exact ⟨_, eqr, by (with_reducible repeat (first | apply Kd.Q_alloc | apply Kd.Q_drewN | apply Kd.Q_drew)); exact du.out, iis z.out, bs HB.out, ks HK.out⟩
        ·rw [if_neg aI] at H
         exact absurd H (by simp)
       ·rw [if_neg ap] at H
        have dp : (O == 2) = false := beq_eq_false_iff_ne.mpr ap
        have dq : (O != 2) = true := bne_iff_ne.mpr ap
        by_cases aq : O = 3
        ·rw [if_pos aq] at H
         have dv : (O == 3) = true := beq_iff_eq.mpr aq
         have dw : (O != 3) = false := bne_eq_false_iff_eq.mpr aq
         clear aq
         by_cases a5 : 0 ≤ y
         ·rw [if_pos a5] at H
          have ep : decide (0 ≤ y) = true := decide_eq_true a5
          clear a5
          by_cases a6 : y < (s.length : Int)
          ·rw [if_pos a6] at H
           have eq : decide (y < (s.length : Int)) = true := decide_eq_true a6
           clear a6
           replace H := Option.bind_eq_some_iff.mp H
           obtain ⟨⟨ae, ct⟩, cu, H⟩ := H
           try dsimp -simprocs only at H
           have dx := am cu
           clear cu
           by_cases aM : 0 ≤ ae
           ·rw [if_pos aM] at H
            have er := eq_true aM
            have es : decide (0 ≤ ae) = true := decide_eq_true aM
            clear aM
            by_cases aN : ae ≤ (((rd_T42 s y).f1).size : Int)
            ·rw [if_pos aN] at H
             have et := eq_true aN
             have eu : decide (ae ≤ (((rd_T42 s y).f1).size : Int)) = true := decide_eq_true aN
             clear aN
             obtain ⟨cv, bB⟩ : ∃ y_ : List (S42), y_ = (s.set (y : Int).toNat (⟨(rd_T42 s y).f0, ((rd_T42 s y).f1).extract 0 (ae : Int).toNat⟩ : S42)) := ⟨_, rfl⟩
             replace H : (some (cv, ct)) = some (Y, Z) := by first | (rw [bB]; exact H) | exact H
             have dy := am bB
             clear bB
             simp only [Option.some.injEq, Prod.mk.injEq] at H
             obtain ⟨rfl, rfl⟩ := H
             go_wp2_with (first | ((with_reducible refine gc 18 rfl ?_); refine gl 24 Try.func18 #[.pointer (some ⟨g, 0, none⟩), .int .i64 (s.length : Int)] ?_; (with_reducible refine (spec_l9Rd_pick.calls X g I ac (s.length : Int) y ad w0 _ ?J ?L aE.out).mono ?_); (case J => exact iis z.out); (case L => exact bs HB.out); rintro e ev ⟨rfl, hi, hb, hk⟩; refine ⟨_, rfl, ?_⟩; replace D := ro D z hk; replace HK := kt HK hk; replace HB := am hb; replace z := am hi; (try clear hi hb hk)) | ((with_reducible refine gc 18 rfl ?_); refine gl 26 Try.func18 #[.pointer (some ⟨g, 0, none⟩), .int .i64 5] ?_; (with_reducible refine (spec_l9Rd_pick.calls X g I ad 5 O ab w0 _ ?J ?L aG.out).mono ?_); (case J => exact iis z.out); (case L => exact bs HB.out); rintro e ew ⟨rfl, hi, hb, hk⟩; refine ⟨_, rfl, ?_⟩; replace D := ro D z hk; replace HK := kt HK hk; replace HB := am hb; replace z := am hi; (try clear hi hb hk); have bC : 0 ≤ (y : Int) := oda; have bD : y < (s.length : Int) := oda; obtain ⟨ex, dz, dA, dB⟩ := at_T42 (Kd.R_reads' D.out).2.2 y bC bD; cases dz; replace bC := eq_true bC; replace bD := eq_true bD) | ((with_reducible refine gc 18 rfl ?_); refine gl 73 Try.func18 #[.pointer (some ⟨g, 0, none⟩), .int .i64 (((rd_T42 s y).f1).size : Int)] ?_; (with_reducible refine (spec_l9Rd_pick.calls X g I ab (((rd_T42 s y).f1).size : Int) ae ct w0 _ ?J ?L dx.out).mono ?_); (case J => exact iis z.out); (case L => exact bs HB.out); rintro e ar ⟨rfl, hi, hb, hk⟩; refine ⟨_, rfl, ?_⟩; replace D := ro D z hk; replace HK := kt HK hk; replace HB := am hb; replace z := am hi; (try clear hi hb hk); have bE : 0 ≤ (y : Int) := oda; have bF : (y : Int) < ((s.length : Int) : Int) := oda; obtain ⟨aj, ey, cy, cz, dC, ez, cA⟩ := Kd.R_form D.out (by omega); (first | cases cy | (injection cy with ea_ en_ ec_; (first | subst ea_ | (injection ea_ with ea_; subst ea_)); subst ec_; clear en_)); have dD := am cz; have eA := am cA; clear cz dC cA; (first | simp only [add_plain] at dA | skip); (first | simp only [add_plain] at dB | skip); obtain ⟨eB, dE, cB, bG, bH⟩ := Kd.R_elem D.out z42 (y : Int) bE bF; obtain rfl := k42_openM cB; have eC : ar.cell? ⟨aj, (y : Int).toNat * 2, none⟩ = some (.int .i64 ((rd_T42 s y).f0)) := bG 0 _ rfl; have eD : ar.cell? ⟨aj, (y : Int).toNat * 2 + 1, none⟩ = some (.string ((rd_T42 s y).f1)) := bG 1 _ rfl; have eE : ar.frozen? ⟨aj, (y : Int).toNat * 2, none⟩ = false := bH 0; have eF : ar.frozen? ⟨aj, (y : Int).toNat * 2 + 1, none⟩ = false := bH 1; clear dE bG bH cB; replace bE := eq_true bE; replace bF := eq_true bF; have HX50 := am (show Kd.R k42 42 ar w.heap.size (fun _ => True) (.slice (some ⟨aj, 0, none⟩) s.length aa) s from (rl D.out)); obtain ⟨eG, cC, cD, bI, cE⟩ := Kd.R_elem HX50.out z42 (y : Int) (oda) (by have h_ : (y : Int) < ((s.length : Int) : Int) := oda; first | exact h_ | (have e_ := (Kd.R_reads' D.out).1; omega) | simpa using h_); obtain rfl := k42_openM cD; have bJ := Kd.R_seg HX50.out (y : Int) (oda) (by have h_ : (y : Int) < ((s.length : Int) : Int) := oda; first | exact h_ | (have e_ := (Kd.R_reads' D.out).1; omega) | simpa using h_) (seg := [.string (((rd_T42 s y).f1).extract 0 (ae : Int).toNat)]) (j := 1) cC bI (show 2 ≤ 2 from by decide) (x' := (⟨(rd_T42 s y).f0, ((rd_T42 s y).f1).extract 0 (ae : Int).toNat⟩ : S42)) (k42_mkM _ _ _ (⟨(rd_T42 s y).f0, ((rd_T42 s y).f1).extract 0 (ae : Int).toNat⟩ : S42) ) (fun _ hk => hk); have dF := bI 1 _ rfl; (try simp only [show (k42).sz = 2 from rfl, Nat.mul_one, Nat.add_zero] at dF); have dG := cE 1; (try simp only [show (k42).sz = 2 from rfl, Nat.mul_one, Nat.add_zero] at dG); clear cC bI cE cD) | ((with_reducible refine gate_store (t := 9) (p := 76) rfl ?_); refine store_event (t := 9) (p := 76) (v := ?vo_w51) (w1 := (ar.setCell ⟨aj, (y : Int).toNat * 2 + 1, none⟩ (.string (((rd_T42 s y).f1).extract 0 (ae : Int).toNat)))) ?hg ?ho ?hn ?hr ?_; (case ho => rfl); (case hg => rfl); (case hn => rfl); (case hr => first | (go_simp; done) | (go_simp; rfl)); intro bK hw; have hg : ar.grownBy bK (some aj) := (by rw [hw]; exact bJ.2); have hp_ : Kd.R k42 42 bK w.heap.size (fun _ => True) (.slice (some ⟨aj, 0, none⟩) s.length aa) cv := (by rw [hw, dy.out]; exact bJ.1); clear bJ; replace z := am (IsS46.grown (iis z.out) hg (IsS46.own_ne z.out D.out (by decide))); replace HB := am ((by rw [hw]; exact below_set (HB.out) (Nat.le_trans HL.out dD.out) : Below w0.heap.size w0 bK)); replace HK := am (KeepBut.trans (ks HK.out) (KeepBut.of_grown hg g) (Kd.R_base2 D.out)); replace D := am hp_; clear hg hw hp_))
             go_ret
             exact ⟨_, eqr, Kd.Q_of_R (rl D.out), iis z.out, bs HB.out, ks HK.out⟩
            ·rw [if_neg aN] at H
             exact absurd H (by simp)
           ·rw [if_neg aM] at H
            exact absurd H (by simp)
          ·rw [if_neg a6] at H
           exact absurd H (by simp)
         ·rw [if_neg a5] at H
          exact absurd H (by simp)
        ·rw [if_neg aq] at H
         have dv : (O == 3) = false := beq_eq_false_iff_ne.mpr aq
         have dw : (O != 3) = true := bne_iff_ne.mpr aq
         by_cases a7 : 0 ≤ y
         ·rw [if_pos a7] at H
          have eH : decide (0 ≤ y) = true := decide_eq_true a7
          clear a7
          by_cases a8 : y < (s.length : Int)
          ·rw [if_pos a8] at H
           have eI : decide (y < (s.length : Int)) = true := decide_eq_true a8
           clear a8
           replace H := Option.bind_eq_some_iff.mp H
           obtain ⟨⟨ay, cF⟩, cG, H⟩ := H
           try dsimp -simprocs only at H
           have dH := am cG
           clear cG
           obtain ⟨cH, bL⟩ : ∃ y_ : List (S42), y_ = (s.set (y : Int).toNat (⟨(rd_T42 s y).f0, ay⟩ : S42)) := ⟨_, rfl⟩
           replace H : (some (cH, cF)) = some (Y, Z) := by first | (rw [bL]; exact H) | exact H
           have dI := am bL
           clear bL
           simp only [Option.some.injEq, Prod.mk.injEq] at H
           obtain ⟨rfl, rfl⟩ := H
           go_wp2_with (first | ((with_reducible refine gc 18 rfl ?_); refine gl 24 Try.func18 #[.pointer (some ⟨g, 0, none⟩), .int .i64 (s.length : Int)] ?_; (with_reducible refine (spec_l9Rd_pick.calls X g I ac (s.length : Int) y ad w0 _ ?J ?L aE.out).mono ?_); (case J => exact iis z.out); (case L => exact bs HB.out); rintro e eJ ⟨rfl, hi, hb, hk⟩; refine ⟨_, rfl, ?_⟩; replace D := ro D z hk; replace HK := kt HK hk; replace HB := am hb; replace z := am hi; (try clear hi hb hk)) | ((with_reducible refine gc 18 rfl ?_); refine gl 26 Try.func18 #[.pointer (some ⟨g, 0, none⟩), .int .i64 5] ?_; (with_reducible refine (spec_l9Rd_pick.calls X g I ad 5 O ab w0 _ ?J ?L aG.out).mono ?_); (case J => exact iis z.out); (case L => exact bs HB.out); rintro e eK ⟨rfl, hi, hb, hk⟩; refine ⟨_, rfl, ?_⟩; replace D := ro D z hk; replace HK := kt HK hk; replace HB := am hb; replace z := am hi; (try clear hi hb hk); have bM : 0 ≤ (y : Int) := oda; have bN : y < (s.length : Int) := oda; obtain ⟨eL, dJ, dK, dL⟩ := at_T42 (Kd.R_reads' D.out).2.2 y bM bN; cases dJ; replace bM := eq_true bM; replace bN := eq_true bN) | ((with_reducible refine gc 20 rfl ?_); refine gl 35 Try.func20 #[.pointer (some ⟨g, 0, none⟩), .string ((rd_T42 s y).f1)] ?_; (with_reducible refine (spec_l4Torn.calls X g I ab ((rd_T42 s y).f1) ay cF w0 _ ?J ?L dH.out).mono ?_); (case J => exact iis z.out); (case L => exact bs HB.out); rintro e au ⟨rfl, hi, hb, hk⟩; refine ⟨_, rfl, ?_⟩; replace D := ro D z hk; replace HK := kt HK hk; replace HB := am hb; replace z := am hi; (try clear hi hb hk); have bO : 0 ≤ (y : Int) := oda; have bP : (y : Int) < ((s.length : Int) : Int) := oda; obtain ⟨ak, eM, cI, cJ, dM, eN, cK⟩ := Kd.R_form D.out (by omega); (first | cases cI | (injection cI with ea_ en_ ec_; (first | subst ea_ | (injection ea_ with ea_; subst ea_)); subst ec_; clear en_)); have dN := am cJ; have eO := am cK; clear cJ dM cK; (first | simp only [add_plain] at dK | skip); (first | simp only [add_plain] at dL | skip); obtain ⟨eP, dO, cL, bQ, bR⟩ := Kd.R_elem D.out z42 (y : Int) bO bP; obtain rfl := k42_openM cL; have eQ : au.cell? ⟨ak, (y : Int).toNat * 2, none⟩ = some (.int .i64 ((rd_T42 s y).f0)) := bQ 0 _ rfl; have eR : au.cell? ⟨ak, (y : Int).toNat * 2 + 1, none⟩ = some (.string ((rd_T42 s y).f1)) := bQ 1 _ rfl; have eS : au.frozen? ⟨ak, (y : Int).toNat * 2, none⟩ = false := bR 0; have eT : au.frozen? ⟨ak, (y : Int).toNat * 2 + 1, none⟩ = false := bR 1; clear dO bQ bR cL; replace bO := eq_true bO; replace bP := eq_true bP; have HX59 := am (show Kd.R k42 42 au w.heap.size (fun _ => True) (.slice (some ⟨ak, 0, none⟩) s.length aa) s from (rl D.out)); obtain ⟨eU, cM, cN, bS, cO⟩ := Kd.R_elem HX59.out z42 (y : Int) (oda) (by have h_ : (y : Int) < ((s.length : Int) : Int) := oda; first | exact h_ | (have e_ := (Kd.R_reads' D.out).1; omega) | simpa using h_); obtain rfl := k42_openM cN; have bT := Kd.R_seg HX59.out (y : Int) (oda) (by have h_ : (y : Int) < ((s.length : Int) : Int) := oda; first | exact h_ | (have e_ := (Kd.R_reads' D.out).1; omega) | simpa using h_) (seg := [.string ay]) (j := 1) cM bS (show 2 ≤ 2 from by decide) (x' := (⟨(rd_T42 s y).f0, ay⟩ : S42)) (k42_mkM _ _ _ (⟨(rd_T42 s y).f0, ay⟩ : S42) ) (fun _ hk => hk); have dP := bS 1 _ rfl; (try simp only [show (k42).sz = 2 from rfl, Nat.mul_one, Nat.add_zero] at dP); have dQ := cO 1; (try simp only [show (k42).sz = 2 from rfl, Nat.mul_one, Nat.add_zero] at dQ); clear cM bS cO cN) | ((with_reducible refine gate_store (t := 9) (p := 37) rfl ?_); refine store_event (t := 9) (p := 37) (v := ?vo_w60) (w1 := (au.setCell ⟨ak, (y : Int).toNat * 2 + 1, none⟩ (.string ay))) ?hg ?ho ?hn ?hr ?_; (case ho => rfl); (case hg => rfl); (case hn => rfl); (case hr => first | (go_simp; done) | (go_simp; rfl)); intro bU hw; have hg : au.grownBy bU (some ak) := (by rw [hw]; exact bT.2); have hp_ : Kd.R k42 42 bU w.heap.size (fun _ => True) (.slice (some ⟨ak, 0, none⟩) s.length aa) cH := (by rw [hw, dI.out]; exact bT.1); clear bT; replace z := am (IsS46.grown (iis z.out) hg (IsS46.own_ne z.out D.out (by decide))); replace HB := am ((by rw [hw]; exact below_set (HB.out) (Nat.le_trans HL.out dN.out) : Below w0.heap.size w0 bU)); replace HK := am (KeepBut.trans (ks HK.out) (KeepBut.of_grown hg g) (Kd.R_base2 D.out)); replace D := am hp_; clear hg hw hp_))
           go_ret
           exact ⟨_, eqr, Kd.Q_of_R (rl D.out), iis z.out, bs HB.out, ks HK.out⟩
          ·rw [if_neg a8] at H
           exact absurd H (by simp)
         ·rw [if_neg a7] at H
          exact absurd H (by simp)
 ·rw [if_neg c3] at H
  exact absurd H (by simp)

/-! ### spec_l2Code: function 31 -/
def spec_l2Code.f (s : Int) (y : Int) : Option (Int) := some (wrap64 ((wrap64 (s * 64)) + y))
theorem spec_l2Code.calls (y : Int) (z : Int) (r : Int) (w : World) (h : spec_l2Code.f y z = some r) :
  Calls Try.prog 31 #[.agg #[.int .i64 y, .int .i64 z]] w fun e w' => e = .returned (.int .i64 r) ∧ Below w.heap.size w w' := by
 have hu55 := Try.underlying55
 have HB := am (Below.refl w.heap.size w)
 have H := h; unfold spec_l2Code.f at H
 clear h
 obtain rfl := Option.some.inj H
 go_enter Try.func31, Try.ntmps31
 go_wp2_with (first | ((with_reducible refine gd 1 rfl ?_); refine bx 1 (cs := #[.int .i64 y, .int .i64 z]) (t := 55) ?_; intro I hg G hbox hb; have D := am hbox; have J := gwb HB hg; replace HB := hs HB hb; clear hb hbox hg; obtain ⟨L, O⟩ := bc2 (w := G) D.out; have T := blk_frozen D.out))
 go_ret
 exact ⟨eqr, bs HB.out⟩

end Go.Proofs.Ytkbamcicbofjbaa.QFnStoreNarrow
