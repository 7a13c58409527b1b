/- Contracts of the Go functions that this law reaches: each does what its plain Lean function says. No condition. -/
import Derived.Test.YtohmemckdogljaaQFnExactGraphDox0
import Derived.Test.YtohmemckdogljaaQFnExactGraphDox2
import Derived.Test.YtohmemckdogljaaQFnExactGraphDox5
namespace Go.Proofs.Ytohmemckdogljaa.QFnExactGraphDo
open Go.RowKit Go.Proofs.YtohmemckdogljaaW.PrintWords Go.Proofs.YtohmemckdogljaaW.PrintLast Go.Proofs.YtohmemckdogljaaW.PrintMore Go.Proofs.Ytohmemckdogljaa.Bl
attribute [local go_sem] max2_int min2_int max_two min_two max_three min_three max_four min_four   -- for this text's walks alone
set_option linter.unusedVariables false
set_option linter.unusedSimpArgs false
set_option maxHeartbeats 8000000
set_option maxRecDepth 100000

attribute [local go_sem high] eqA56
/-! ### spec_l2PutEdge: function 124 -/
def spec_l2PutEdge.l0 : Nat → Int → List (S36) → List (S56) → Int → Int → Int → Int → Int → Option ((List (S36)) × (List (S56)))
 | 0, _, _, _, _, _, _, _, _ => none
 | k + 1, s, L, y, z, D, G, I, J => if s < (y.length : Int) then (if 0 ≤ s then ((spec_l2Less.f ((rd_T56 y s).f0) ((rd_T56 y s).f1.f0) ((rd_T56 y s).f1.f1) ((rd_T56 y s).f2.f0) ((rd_T56 y s).f2.f1) z D G I J).bind fun af => (if af = true then (spec_l2PutEdge.l0 k (wrap64 (s + 1)) L y z D G I J) else ((some (([] : List (S56)) : List (S56))).bind fun O => (if s ≤ (y.length : Int) then ((some (y.drop (s : Int).toNat : List (S56))).bind fun T => (if O.length + T.length < 3518437208883 then ((some (O ++ T : List (S56))).bind fun X => ((some (y.take (s : Int).toNat : List (S56))).bind fun Y => (if Y.length < 3518437208883 then ((some (Y ++ [(⟨z, (⟨D, G⟩ : S36), (⟨I, J⟩ : S36)⟩ : S56)] : List (S56))).bind fun Z => (if Z.length + X.length < 3518437208883 then (some (L, (Z ++ X))) else (none))) else (none)))) else (none))) else (none))))) else (none)) else ((some (([] : List (S56)) : List (S56))).bind fun aa => (if 0 ≤ s then (if s ≤ (y.length : Int) then ((some (y.drop (s : Int).toNat : List (S56))).bind fun ab => (if aa.length + ab.length < 3518437208883 then ((some (aa ++ ab : List (S56))).bind fun ac => ((some (y.take (s : Int).toNat : List (S56))).bind fun ad => (if ad.length < 3518437208883 then ((some (ad ++ [(⟨z, (⟨D, G⟩ : S36), (⟨I, J⟩ : S36)⟩ : S56)] : List (S56))).bind fun ae => (if ae.length + ac.length < 3518437208883 then (some (L, (ae ++ ac))) else (none))) else (none)))) else (none))) else (none)) else (none)))
def spec_l2PutEdge.f (k : Nat) (s : List (S36)) (y : List (S56)) (z : Int) (D : Int) (G : Int) (I : Int) (J : Int) : Option ((List (S36)) × (List (S56))) := spec_l2PutEdge.l0 k 0 s y z D G I J
def spec_l2PutEdge.T2 : Bool × List (List Nat × List Nat) := (true, [([], []), ([], []), ([1], [1]), ([2], [2]), ([0, 3], [0, 3]), ([4], [4]), ([5], [5]), ([6, 5], [5, 6]), ([5], [5]), ([7, 8, 5], [5, 7, 8]), ([9, 5], [5, 9]), ([5], [5]), ([10, 11, 5, 5], [5, 10, 11]), ([5, 12], [5, 12])])
def spec_l2PutEdge.B2 : List Nat := [0, 0, 2, 6, 15, 31, 63, 127, 63, 511, 1023, 63, 4095, 8191]
theorem spec_l2PutEdge.tab2 : rtab .any (opsOf Try.f124 2) = spec_l2PutEdge.T2 := by kernel_rfl
theorem spec_l2PutEdge.bits2 : waitsOk spec_l2PutEdge.T2.2 spec_l2PutEdge.B2 = true := by kernel_rfl
def spec_l2PutEdge.T5 : Bool × List (List Nat × List Nat) := (true, [([], []), ([0], [0]), ([], []), ([1, 2], [1, 2]), ([], []), ([4], [4]), ([3, 5], [3, 5]), ([], []), ([6, 7, 6], [6, 7]), ([0, 1, 2, 3, 4, 5, 6, 7, 8], []), ([9, 8, 8, 0, 1, 2, 3, 4, 5, 6, 7, 8], [8, 9])])
def spec_l2PutEdge.B5 : List Nat := [0, 1, 0, 7, 0, 16, 63, 0, 255, 511, 1023]
theorem spec_l2PutEdge.tab5 : rtab .any (opsOf Try.f124 5) = spec_l2PutEdge.T5 := by kernel_rfl
theorem spec_l2PutEdge.bits5 : waitsOk spec_l2PutEdge.T5.2 spec_l2PutEdge.B5 = true := by kernel_rfl
theorem spec_l2PutEdge.calls (k : Nat) (O : Nat → Prop) (bM : Value) (ad : List (S36)) (T : Nat → Prop) (bN : Value) (D : List (S56)) (X : Int) (Y : Int) (Z : Int) (aa : Int) (ab : Int) (r1 : List (S36)) (r2 : List (S56)) (w0 w : World) (hB : Below w0.heap.size w0 w) (cW : Kd.R k36 36 w w0.heap.size O bM ad) (cX : Kd.R k56 56 w w0.heap.size T bN D) (h : spec_l2PutEdge.f k ad D X Y Z aa ab = some (r1, r2)) :
  Calls Try.prog 124 #[.agg #[bM, bN], .agg #[.int .i64 X, .int .i64 Y, .int .i64 Z, .int .i64 aa, .int .i64 ab]] w fun e w' => ∃ cm cn : Value, e = .returned (.agg #[cm, cn]) ∧ Kd.R k36 36 w' w0.heap.size (fun k_ => ((O k_ ∨ T k_) ∨ w.heap.size ≤ k_)) cm r1 ∧ Kd.R k56 56 w' w0.heap.size (fun k_ => ((O k_ ∨ T k_) ∨ w.heap.size ≤ k_)) cn r2 ∧ Below w0.heap.size w0 w' ∧ Kept w w' (fun k_ => O k_ ∨ T k_) := by
 have hu34 := Try.underlying34
 have hu56 := Try.underlying56
 have aC := am (show Kd.R k36 36 w w0.heap.size (fun k_ => ((O k_ ∨ T k_) ∨ w.heap.size ≤ k_)) bM ad from Kd.R_mono cW (fun k_ hk => (.inl (.inl hk))))
 have aD := am (show Kd.R k56 56 w w0.heap.size (fun k_ => ((O k_ ∨ T k_) ∨ w.heap.size ≤ k_)) bN D from Kd.R_mono cX (fun k_ hk => (.inl (.inr hk))))
 have HK := am (Kept.refl w (fun k_ => O k_ ∨ T k_))
 have dK := am hB.size
 have HB := am hB
 clear hB
 have H := h; unfold spec_l2PutEdge.f at H
 clear h
 have H' := am H
 clear H
 obtain ⟨aq, ar, cY⟩ := Kd.R_slice aC.out
 subst cY
 obtain ⟨au, af, cZ⟩ := Kd.R_slice aD.out
 subst cZ
 go_enter Try.func124, Try.ntmps124
 go_wp2_with (first | ((with_reducible refine gd 2 rfl ?_); refine bx 2 (cs := #[.slice aq ad.length ar, .slice au D.length af]) (t := 34) ?_; intro aj hg w5 hbox hb; replace aC := rb aC hb; replace aD := rb aD hb; have G := am hbox; have dL := Ge.mk ((by rw [hg]; exact (by first | exact HK.out.1 | exact (show Kept w _ (fun k_ => O k_ ∨ T k_) from ts HK.out).1) : w.heap.size ≤ aj)); replace HK := kl HK hb; have dM := gwb HB hg; replace HB := hs HB hb; clear hb hbox hg) | ((with_reducible refine gd 3 rfl ?_); refine bx 3 (cs := #[.int .i64 X, .int .i64 Y, .int .i64 Z, .int .i64 aa, .int .i64 ab]) (t := 56) ?_; intro I hg w6 hbox hb; replace aC := rb aC hb; replace aD := am (Kd.R_below (Kd.R_elderB (rl aD.out) I (Nat.le_of_eq hg.symm)) hb); have z := am hbox; have dN := Ge.mk ((by rw [hg]; exact (by first | exact HK.out.1 | exact (show Kept w _ (fun k_ => O k_ ∨ T k_) from ts HK.out).1) : w.heap.size ≤ I)); replace HK := kl HK hb; have dO := gwb HB hg; replace HB := hs HB hb; have bt := nq G hg; have bu := nq' G hg; replace G := bb G hb rfl; clear hb hbox hg) | ((with_reducible refine gd 4 rfl ?_); refine bx 4 (cs := #[.slice none 0 0, .slice none 0 0]) (t := 34) ?_; intro av hg w7 hbox hb; replace aC := rb aC hb; replace aD := rb aD hb; have J := am hbox; have dP := Ge.mk ((by rw [hg]; exact (by first | exact HK.out.1 | exact (show Kept w _ (fun k_ => O k_ ∨ T k_) from ts HK.out).1) : w.heap.size ≤ av)); replace HK := kl HK hb; have dQ := gwb HB hg; replace HB := hs HB hb; have bv := nq G hg; have bw := nq' G hg; replace G := bb G hb rfl; have co := nq z hg; have cp := nq' z hg; replace z := bb z hb rfl; clear hb hbox hg))
 go_loopg [5] k (fun kq v5 w' => ∃ (y : Int), v5 = .int .i64 y ∧ Aside0 (spec_l2PutEdge.l0 kq y ad D X Y Z aa ab = some (r1, r2)) ∧ Aside0 (kq ≤ k) ∧ Aside0 (Kd.R k36 36 w' w0.heap.size (fun k_ => ((O k_ ∨ T k_) ∨ w.heap.size ≤ k_)) (.slice aq ad.length ar) ad) ∧ Aside0 (Kd.R k56 56 w' w0.heap.size (fun k_ => ((O k_ ∨ T k_) ∨ w.heap.size ≤ k_) ∧ k_ ≠ I) (.slice au D.length af) D) ∧ Aside0 (w'.heap[aj]? = some (.cells #[(.slice aq ad.length ar), (.slice au D.length af)] 34 (0, 0))) ∧ Aside0 (w'.heap[I]? = some (.cells #[.int .i64 X, .int .i64 Y, .int .i64 Z, .int .i64 aa, .int .i64 ab] 56 (0, 0))) ∧ Aside0 (w'.heap[av]? = some (.cells #[(.slice none 0 0), (.slice none 0 0)] 34 (0, 0))) ∧ Aside0 (Kept w w' (fun k_ => O k_ ∨ T k_)) ∧ Aside0 (Below w0.heap.size w0 w'))
 case atStart => exact ⟨(0), eqs, H', ⟨Nat.le_refl _⟩, ⟨rl aC.out⟩, ⟨rl aD.out⟩, ⟨bf G.out⟩, ⟨bf z.out⟩, ⟨bf J.out⟩, ⟨ts HK.out⟩, ⟨bs HB.out⟩⟩
 case round =>
  clear H'
  try clear c1
  try clear p2
  obtain ⟨y, rfl, HA, ct, ac, L, G, z, J, HK, HB⟩ := hrel
  cases gk with
  | zero => exact absurd HA.out (by simp [spec_l2PutEdge.l0])
  | succ k1 =>
   have H := HA.out
   clear HA
   simp only [spec_l2PutEdge.l0] at H
   by_cases c8 : y < (D.length : Int)
   ·rw [if_pos c8] at H
    have c0 : decide (y < (D.length : Int)) = true := decide_eq_true c8
    clear c8
    by_cases c9 : 0 ≤ y
    ·rw [if_pos c9] at H
     have dR : decide (0 ≤ y) = true := decide_eq_true c9
     clear c9
     replace H := Option.bind_eq_some_iff.mp H
     obtain ⟨c2, cu, H⟩ := H
     try dsimp -simprocs only at H
     have cv := am cu
     clear cu
     by_cases bz : c2 = true
     ·subst bz
      replace H : (spec_l2PutEdge.l0 k1 (wrap64 (y + 1)) ad D X Y Z aa ab) = some (r1, r2) := by rw [if_pos rfl] at H; exact H
      have H' := am H
      clear H
      try go_wp2
      replace ac := rd_ ac
      replace L := rd_ L
      replace G := bd G
      replace z := bd z
      replace J := bd J
      replace HK := am (Kept.drew HK.out)
      replace HB := hd HB
      have aH : 0 ≤ (y : Int) := oda
      have aI : y < (D.length : Int) := oda
      obtain ⟨ae, bO, a9, ba, bc, be, bg⟩ := at_T56 (Kd.R_reads' L.out).2.2 y aH aI
      cases bO
      replace aH := eq_true aH
      replace aI := eq_true aI
      refine sta 14 (fun w' => w'.cell? ⟨aj, 0, none⟩ = some (.slice aq ad.length ar) ∧ w'.cell? ⟨aj, 1, none⟩ = some (.slice (some ae) D.length af) ∧ w'.cell? ⟨I, 0, none⟩ = some (.int .i64 X) ∧ w'.cell? ⟨I, 1, none⟩ = some (.int .i64 Y) ∧ w'.cell? ⟨I, 2, none⟩ = some (.int .i64 Z) ∧ w'.cell? ⟨I, 3, none⟩ = some (.int .i64 aa) ∧ w'.cell? ⟨I, 4, none⟩ = some (.int .i64 ab) ∧ w'.cell? (ae.add ((y).toNat * 5)) = some (.int .i64 ((rd_T56 D y).f0)) ∧ w'.cell? ⟨(ae.add ((y).toNat * 5)).block, (ae.add ((y).toNat * 5)).off + 1, none⟩ = some (.int .i64 ((rd_T56 D y).f1.f0)) ∧ w'.cell? ⟨(ae.add ((y).toNat * 5)).block, (ae.add ((y).toNat * 5)).off + 2, none⟩ = some (.int .i64 ((rd_T56 D y).f1.f1)) ∧ w'.cell? ⟨(ae.add ((y).toNat * 5)).block, (ae.add ((y).toNat * 5)).off + 3, none⟩ = some (.int .i64 ((rd_T56 D y).f2.f0)) ∧ w'.cell? ⟨(ae.add ((y).toNat * 5)).block, (ae.add ((y).toNat * 5)).off + 4, none⟩ = some (.int .i64 ((rd_T56 D y).f2.f1))) [] ⟨cx G 0, cx G 1, cx z 0, cx z 1, cx z 2, cx z 3, cx z 4, a9, ba, bc, be, bg⟩ (fun hHeld => ?_); refine with_tabW spec_l2PutEdge.tab2 spec_l2PutEdge.bits2 (fun HT_ HW_ => ?_)
      generalize wr.drew = dS at ac L G z J HK HB a9 ba bc be bg hHeld ⊢
      refine pu 0 7 ?_
      refine pu 1 8 ?_
      refine tk 2 9 ?_
      refine pu 3 10 ?_
      refine pu 4 11 ?_
      refine pu 5 12 ?_
      refine pu 6 13 ?_
      refine pu 8 15 ?_
      refine tk 7 14 ?_
      refine pu 9 16 ?_
      refine tk 10 17 ?_
      refine tk 11 18 ?_
      refine on 12 19 (fun K hK => ?_)
      refine gs Try.func78 #[.agg #[.int .i64 ((rd_T56 D y).f0), .int .i64 ((rd_T56 D y).f1.f0), .int .i64 ((rd_T56 D y).f1.f1), .int .i64 ((rd_T56 D y).f2.f0), .int .i64 ((rd_T56 D y).f2.f1)], .agg #[.int .i64 X, .int .i64 Y, .int .i64 Z, .int .i64 aa, .int .i64 ab]] ?_
      with_reducible refine (spec_l2Less.calls ((rd_T56 D y).f0) ((rd_T56 D y).f1.f0) ((rd_T56 D y).f1.f1) ((rd_T56 D y).f2.f0) ((rd_T56 D y).f2.f1) X Y Z aa ab true _ cv.out).mono ?_
      rintro e dT ⟨rfl, hb⟩
      have bP := cw hb hHeld.2.2.2.2.2.2.2.1
      have bQ := cw hb hHeld.2.2.2.2.2.2.2.2.1
      have bR := cw hb hHeld.2.2.2.2.2.2.2.2.2.1
      have bS := cw hb hHeld.2.2.2.2.2.2.2.2.2.2.1
      have bT := cw hb hHeld.2.2.2.2.2.2.2.2.2.2.2
      refine ⟨_, rfl, ?_⟩
      replace ac := rb ac hb
      replace L := rb L hb
      replace G := bb G hb rfl
      replace z := bb z hb rfl
      replace J := bb J hb rfl
      replace HK := kl HK hb
      replace HB := hs HB hb
      (try clear hb)
      (try clear hb2)
      (try clear hk)
      (try clear hi)
      refine hK.out _ _ ⟨cx G 0, cx G 1, cx z 0, cx z 1, cx z 2, cx z 3, cx z 4, bP, bQ, bR, bS, bT⟩ (fun hHeld => ?_)
      clear hK K
      refine nrm 19 ?_
      refine pu 13 20 ?_
      refine dn ?_
      try go_wp2
      go_roundg k1
      case measure => have := ct.out; omega
      case rel => exact ⟨(wrap64 (y + 1)), eqs, H', ⟨by have := ct.out; omega⟩, ⟨rl ac.out⟩, ⟨rl L.out⟩, ⟨bf G.out⟩, ⟨bf z.out⟩, ⟨bf J.out⟩, ⟨ts HK.out⟩, ⟨bs HB.out⟩⟩
     ·replace bz := Bool.eq_false_iff.mpr bz
      subst bz
      have H1 : ((some (([] : List (S56)) : List (S56))).bind fun aA => (if y ≤ (D.length : Int) then ((some (D.drop (y : Int).toNat : List (S56))).bind fun ak => (if aA.length + ak.length < 3518437208883 then ((some (aA ++ ak : List (S56))).bind fun ah => ((some (D.take (y : Int).toNat : List (S56))).bind fun ai => (if ai.length < 3518437208883 then ((some (ai ++ [(⟨X, (⟨Y, Z⟩ : S36), (⟨aa, ab⟩ : S36)⟩ : S56)] : List (S56))).bind fun ag => (if ag.length + ah.length < 3518437208883 then (some (ad, (ag ++ ah))) else (none))) else (none)))) else (none))) else (none))) = some (r1, r2) := by rw [if_neg (show ¬ (false = true) by decide)] at H; exact H
      clear H
      have H := H1
      clear H1
      obtain ⟨aA, bU⟩ : ∃ y_ : List (S56), y_ = (([] : List (S56))) := ⟨_, rfl⟩
      replace H : (if y ≤ (D.length : Int) then ((some (D.drop (y : Int).toNat : List (S56))).bind fun ak => (if aA.length + ak.length < 3518437208883 then ((some (aA ++ ak : List (S56))).bind fun ah => ((some (D.take (y : Int).toNat : List (S56))).bind fun ai => (if ai.length < 3518437208883 then ((some (ai ++ [(⟨X, (⟨Y, Z⟩ : S36), (⟨aa, ab⟩ : S36)⟩ : S56)] : List (S56))).bind fun ag => (if ag.length + ah.length < 3518437208883 then (some (ad, (ag ++ ah))) else (none))) else (none)))) else (none))) else (none)) = some (r1, r2) := by first | (rw [bU]; exact H) | exact H
      have cy := am bU
      clear bU
      have dU := eq_true (oda : 0 ≤ y)
      by_cases bh : y ≤ (D.length : Int)
      ·rw [if_pos bh] at H
       have dV := eq_true bh
       have dW : decide (y ≤ (D.length : Int)) = true := decide_eq_true bh
       clear bh
       obtain ⟨ak, bV⟩ : ∃ y_ : List (S56), y_ = (D.drop (y : Int).toNat) := ⟨_, rfl⟩
       replace H : (if aA.length + ak.length < 3518437208883 then ((some (aA ++ ak : List (S56))).bind fun ah => ((some (D.take (y : Int).toNat : List (S56))).bind fun ai => (if ai.length < 3518437208883 then ((some (ai ++ [(⟨X, (⟨Y, Z⟩ : S36), (⟨aa, ab⟩ : S36)⟩ : S56)] : List (S56))).bind fun ag => (if ag.length + ah.length < 3518437208883 then (some (ad, (ag ++ ah))) else (none))) else (none)))) else (none)) = some (r1, r2) := by first | (rw [bV]; exact H) | exact H
       have bW := am bV
       clear bV
       by_cases bA : aA.length + ak.length < 3518437208883
       ·rw [if_pos bA] at H
        have c3 := am bA
        clear bA
        obtain ⟨ah, bX⟩ : ∃ y_ : List (S56), y_ = (aA ++ ak) := ⟨_, rfl⟩
        replace H : ((some (D.take (y : Int).toNat : List (S56))).bind fun ai => (if ai.length < 3518437208883 then ((some (ai ++ [(⟨X, (⟨Y, Z⟩ : S36), (⟨aa, ab⟩ : S36)⟩ : S56)] : List (S56))).bind fun ag => (if ag.length + ah.length < 3518437208883 then (some (ad, (ag ++ ah))) else (none))) else (none))) = some (r1, r2) := by first | (rw [bX]; exact H) | exact H
        have c4 := am bX
        clear bX
        have dX := eq_true (oda : y ≤ (D.length : Int))
        obtain ⟨ai, bY⟩ : ∃ y_ : List (S56), y_ = (D.take (y : Int).toNat) := ⟨_, rfl⟩
        replace H : (if ai.length < 3518437208883 then ((some (ai ++ [(⟨X, (⟨Y, Z⟩ : S36), (⟨aa, ab⟩ : S36)⟩ : S56)] : List (S56))).bind fun ag => (if ag.length + ah.length < 3518437208883 then (some (ad, (ag ++ ah))) else (none))) else (none)) = some (r1, r2) := by first | (rw [bY]; exact H) | exact H
        have cz := am bY
        clear bY
        by_cases bB : ai.length < 3518437208883
        ·rw [if_pos bB] at H
         have c5 := am bB
         clear bB
         obtain ⟨ag, bZ⟩ : ∃ y_ : List (S56), y_ = (ai ++ [(⟨X, (⟨Y, Z⟩ : S36), (⟨aa, ab⟩ : S36)⟩ : S56)]) := ⟨_, rfl⟩
         replace H : (if ag.length + ah.length < 3518437208883 then (some (ad, (ag ++ ah))) else (none)) = some (r1, r2) := by first | (rw [bZ]; exact H) | exact H
         have c6 := am bZ
         clear bZ
         by_cases bC : ag.length + ah.length < 3518437208883
         ·rw [if_pos bC] at H
          have c7 := am bC
          clear bC
          obtain ⟨aW, b0⟩ : ∃ y_ : List (S56), y_ = (ag ++ ah) := ⟨_, rfl⟩
          replace H : (some (ad, aW)) = some (r1, r2) := by first | (rw [b0]; exact H) | exact H
          have da := am b0
          clear b0
          simp only [Option.some.injEq, Prod.mk.injEq] at H
          obtain ⟨rfl, rfl⟩ := H
          try go_wp2
          replace ac := rd_ ac
          replace L := rd_ L
          replace G := bd G
          replace z := bd z
          replace J := bd J
          replace HK := am (Kept.drew HK.out)
          replace HB := hd HB
          have aH : 0 ≤ (y : Int) := oda
          have aI : y < (D.length : Int) := oda
          obtain ⟨ae, bO, a9, ba, bc, be, bg⟩ := at_T56 (Kd.R_reads' L.out).2.2 y aH aI
          cases bO
          replace aH := eq_true aH
          replace aI := eq_true aI
          refine sta 14 (fun w' => w'.cell? ⟨aj, 0, none⟩ = some (.slice aq ad.length ar) ∧ w'.cell? ⟨aj, 1, none⟩ = some (.slice (some ae) D.length af) ∧ w'.cell? ⟨I, 0, none⟩ = some (.int .i64 X) ∧ w'.cell? ⟨I, 1, none⟩ = some (.int .i64 Y) ∧ w'.cell? ⟨I, 2, none⟩ = some (.int .i64 Z) ∧ w'.cell? ⟨I, 3, none⟩ = some (.int .i64 aa) ∧ w'.cell? ⟨I, 4, none⟩ = some (.int .i64 ab) ∧ w'.cell? (ae.add ((y).toNat * 5)) = some (.int .i64 ((rd_T56 D y).f0)) ∧ w'.cell? ⟨(ae.add ((y).toNat * 5)).block, (ae.add ((y).toNat * 5)).off + 1, none⟩ = some (.int .i64 ((rd_T56 D y).f1.f0)) ∧ w'.cell? ⟨(ae.add ((y).toNat * 5)).block, (ae.add ((y).toNat * 5)).off + 2, none⟩ = some (.int .i64 ((rd_T56 D y).f1.f1)) ∧ w'.cell? ⟨(ae.add ((y).toNat * 5)).block, (ae.add ((y).toNat * 5)).off + 3, none⟩ = some (.int .i64 ((rd_T56 D y).f2.f0)) ∧ w'.cell? ⟨(ae.add ((y).toNat * 5)).block, (ae.add ((y).toNat * 5)).off + 4, none⟩ = some (.int .i64 ((rd_T56 D y).f2.f1))) [] ⟨cx G 0, cx G 1, cx z 0, cx z 1, cx z 2, cx z 3, cx z 4, a9, ba, bc, be, bg⟩ (fun hHeld => ?_); refine with_tabW spec_l2PutEdge.tab2 spec_l2PutEdge.bits2 (fun HT_ HW_ => ?_)
          generalize wr.drew = dY at ac L G z J HK HB a9 ba bc be bg hHeld ⊢
          refine pu 0 7 ?_
          refine pu 1 8 ?_
          refine tk 2 9 ?_
          refine pu 3 10 ?_
          refine pu 4 11 ?_
          refine pu 5 12 ?_
          refine pu 6 13 ?_
          refine pu 8 15 ?_
          refine tk 7 14 ?_
          refine pu 9 16 ?_
          refine tk 10 17 ?_
          refine tk 11 18 ?_
          refine on 12 19 (fun K hK => ?_)
          refine gs Try.func78 #[.agg #[.int .i64 ((rd_T56 D y).f0), .int .i64 ((rd_T56 D y).f1.f0), .int .i64 ((rd_T56 D y).f1.f1), .int .i64 ((rd_T56 D y).f2.f0), .int .i64 ((rd_T56 D y).f2.f1)], .agg #[.int .i64 X, .int .i64 Y, .int .i64 Z, .int .i64 aa, .int .i64 ab]] ?_
          with_reducible refine (spec_l2Less.calls ((rd_T56 D y).f0) ((rd_T56 D y).f1.f0) ((rd_T56 D y).f1.f1) ((rd_T56 D y).f2.f0) ((rd_T56 D y).f2.f1) X Y Z aa ab false _ cv.out).mono ?_
          rintro e dZ ⟨rfl, hb⟩
          have bP := cw hb hHeld.2.2.2.2.2.2.2.1
          have bQ := cw hb hHeld.2.2.2.2.2.2.2.2.1
          have bR := cw hb hHeld.2.2.2.2.2.2.2.2.2.1
          have bS := cw hb hHeld.2.2.2.2.2.2.2.2.2.2.1
          have bT := cw hb hHeld.2.2.2.2.2.2.2.2.2.2.2
          refine ⟨_, rfl, ?_⟩
          replace ac := rb ac hb
          replace L := rb L hb
          replace G := bb G hb rfl
          replace z := bb z hb rfl
          replace J := bb J hb rfl
          replace HK := kl HK hb
          replace HB := hs HB hb
          (try clear hb)
          (try clear hb2)
          (try clear hk)
          (try clear hi)
          refine hK.out _ _ ⟨cx G 0, cx G 1, cx z 0, cx z 1, cx z 2, cx z 3, cx z 4, bP, bQ, bR, bS, bT⟩ (fun hHeld => ?_)
          clear hK K
          refine nrm 19 ?_
          refine pu 13 20 ?_
          refine dn ?_
          try go_wp2_with (first | ((with_reducible refine gd 23 rfl ?_); refine Kd.R_lit k56 _ 56 ?hg (N := 23) ?hd (xs := ([] : List (S56))) (inner := []) (ok := fun _ => True) (okp := fun _ => True) ?hr ?hp (fun _ hk => hk) trivial (Below.refl _ _) (Nat.le_refl _) (by simp) ?_; (case hd => rfl); (case hg => rfl); (case hr => first | (go_simp; done) | (go_simp; rfl)); (case hp => exact (Reps.none _ _)); intro db dc aX hb hg_ hnew_; clear hg_ hnew_; (first | rw [← cy.out] at aX | (simp only [Int.reduceToNat] at aX; rw [← cy.out] at aX)); replace ac := rb ac hb; have aJ := am (Kd.R_lower (Kd.R_newB (Kd.R_new' (Kd.R_newM (M := fun k_ => ((O k_ ∨ T k_) ∨ w.heap.size ≤ k_)) aX (by first | exact HK.out.1 | exact (show Kept w _ (fun k_ => O k_ ∨ T k_) from ts HK.out).1) (fun k_ h_ => .inr h_)) (rk L)) (g := I) (o := .cells #[.int .i64 X, .int .i64 Y, .int .i64 Z, .int .i64 aa, .int .i64 ab] 56 (0, 0)) (bf z.out)) (below_size (bs HB.out))); replace L := re L aX hb; replace G := bb G hb rfl; replace z := bb z hb rfl; replace J := bb J hb rfl; replace HK := kl HK hb; replace HB := hs HB hb; clear hb aX; have d0 := bt.out; have d1 := bu.out; have d2 := bv.out; have d3 := bw.out; obtain ⟨d4, d5⟩ := bc2 (w := dc) G.out; have d6 := blk_frozen G.out; have b1 : (y : Int) ≤ ((D.length : Int) : Int) := oda; obtain ⟨d7, cA, _, cB, _⟩ := info_parts info56; have b2 : D.length ≤ af := (Kd.R_reads' L.out).2.1; have cC : Kd.C k56 _ (some ae) D.length D := (Kd.R_reads' L.out).2.2; have dd : (0 : Int) ≤ (y : Int) := oda; have de := cut_from (P := Try.prog) 32 56 .i64 Try.underlying32 cA 5 cB (some ae) D.length af y dd b1; have bi := Kd.C_drop (m := (y : Int).toNat) (c := af) cC (by omega) b2; obtain ⟨cD, bD⟩ : ∃ A1, A1 = (if af = (y : Int).toNat then (some ae) else ((some ae) : Option Addr).map (·.add ((y : Int).toNat * 5))) := ⟨_, rfl⟩; obtain ⟨df, b3⟩ : ∃ c1, c1 = af - (y : Int).toNat := ⟨_, rfl⟩; have bE : ak.length = D.length - (y : Int).toNat := (by rw [bW.out, List.length_drop] <;> omega); rw [show (D).drop (y : Int).toNat = ak from bW.out.symm] at bi; replace bi : Kd.C k56 _ cD ak.length ak := (by rw [bD]; exact bi); rw [← bE, ← bD, ← b3] at de; have aY := am bi; have d8 := am (show ak.length ≤ df from by rw [bE, b3]; exact Nat.sub_le_sub_right b2 _); clear bi cC b2 cA cB b3; have d9 := am bE; have dg := am bD; clear bE bD; have dh := am (show (y : Int).toNat ≤ D.length from by omega); replace b1 := eq_true b1) | ((with_reducible refine gate_builtin (b := .append) (xs := #[.tmp 23, .tmp 27]) rfl ?_); at_builtin; refine Kd.R_append_rows k56 (w0 := w0) w0.heap.size rfl (.tmp 23) (.tmp 27) 32 56 (.agg #[(.int .i64 0), (.int .i64 0), (.int .i64 0), (.int .i64 0), (.int .i64 0)]) 40 rfl Try.underlying32 info56 rfl (by decide) (by omega) db aA ak _ _ _ (fun k_ => ((O k_ ∨ T k_) ∨ w.heap.size ≤ k_) ∧ some k_ ≠ (.slice (some ae) D.length af : Value).ownBlock ∧ k_ ≠ I) (fun _ => False) rfl rfl ?aO ?aR (fun _ _ h => h) (fun _ h => h.elim) ?aF ?aB ?aS ?aL ?_; (case aR => repeat (first | exact (by repeat (first | (with_reducible exact aY.out) | (with_reducible refine Kd.C_alloc ?_ _) | (with_reducible refine Kd.C_drewN ?_ _) | (with_reducible refine Kd.C_drew ?_) | exact aY.out)) | (with_reducible refine Kd.C_alloc ?_ _) | (with_reducible refine Kd.C_drewN ?_ _) | (with_reducible refine Kd.C_drew ?_))); (case aB => exact (bs HB.out)); (case aF => exact (fun k_ hk => ⟨(.inr (Nat.le_trans (by first | exact HK.out.1 | exact (show Kept w _ (fun k_ => O k_ ∨ T k_) from ts HK.out).1) hk)), Kd.fresh' (rk L) k_ hk, Kd.freshB (g := I) (o := .cells #[.int .i64 X, .int .i64 Y, .int .i64 Z, .int .i64 aa, .int .i64 ab] 56 (0, 0)) (bf z.out) k_ hk⟩)); (case aO => exact (by (with_reducible repeat (first | apply Kd.R_alloc | apply Kd.R_drewN | apply Kd.R_drew)); exact Kd.R_mono aJ.out (fun _ hk => ⟨hk.1.1.1, ⟨hk.1.2, hk.2⟩⟩))); (case aS => exact (below_size (bs HB.out))); (case aL => have := c3.out; omega); intro di cE ho hb hg hat; rw [← c4.out] at ho; replace ac := am (Kd.R_over' (rl ac.out) (Kd.R_typed (rl aJ.out)) (by decide) hg); replace G := gr G aJ hg; replace z := am (blk_grown (g := I) (o := .cells #[.int .i64 X, .int .i64 Y, .int .i64 Z, .int .i64 aa, .int .i64 ab] 56 (0, 0)) (bf z.out) hg (Kd.R_away aJ.out (fun _ hk => hk.2))); replace J := gr J aJ hg; replace HB := am hb; replace HK := am (Kept.of_grown (S := (fun k_ => O k_ ∨ T k_)) hg (ts HK.out) (fun k_ e_ => (aJ.out.1 k_ e_).1.1.1)); replace aY := am ((show Kd.C k56 cE cD ak.length ak from by rw [bW.out, dg.out]; exact Kd.C_drop (m := (y : Int).toNat) (c := af) ((Kd.R_reads' (Kd.R_after (ok := (fun k_ => ((O k_ ∨ T k_) ∨ w.heap.size ≤ k_) ∧ k_ ≠ I)) (rl L.out) hg hat)).2.2) dh.out ((Kd.R_reads' (Kd.R_after (ok := (fun k_ => ((O k_ ∨ T k_) ∨ w.heap.size ≤ k_) ∧ k_ ≠ I)) (rl L.out) hg hat)).2.1))); replace L := am (Kd.R_after (ok := (fun k_ => ((O k_ ∨ T k_) ∨ w.heap.size ≤ k_) ∧ k_ ≠ I)) (rl L.out) hg hat); have aw := am ho; clear aJ; clear ho hb hg hat))
          replace ac := rd_ ac
          replace L := rd_ L
          replace aw := rd_ aw
          replace G := bd G
          replace z := bd z
          replace J := bd J
          replace aY := am (Kd.C_drew aY.out)
          replace HK := am (Kept.drew HK.out)
          replace HB := hd HB
          have b4 : (y : Int) ≤ ((D.length : Int) : Int) := oda
          obtain ⟨ea, cF, _, dj, _⟩ := info_parts info56
          have dk := cut_to (P := Try.prog) 32 56 .i64 Try.underlying32 cF (some ae) D.length af y (oda) b4 (Kd.R_reads' L.out).2.1
          have bF := Kd.R_take (m := (y : Int).toNat) L.out (by omega)
          have cG : ai.length = (y : Int).toNat := (by rw [cz.out, List.length_take]; omega)
          rw [← cz.out] at bF
          rw [← cG] at bF dk
          clear cG cF dj L
          have aE := am bF
          clear bF
          replace b4 := eq_true b4
          refine sta 11 (fun w' => w'.cell? ⟨aj, 0, none⟩ = some (.slice aq ad.length ar) ∧ w'.cell? ⟨aj, 1, none⟩ = some (.slice (some ae) D.length af) ∧ w'.cell? ⟨I, 0, none⟩ = some (.int .i64 X) ∧ w'.cell? ⟨I, 1, none⟩ = some (.int .i64 Y) ∧ w'.cell? ⟨I, 2, none⟩ = some (.int .i64 Z) ∧ w'.cell? ⟨I, 3, none⟩ = some (.int .i64 aa) ∧ w'.cell? ⟨I, 4, none⟩ = some (.int .i64 ab)) [10] ⟨cx G 0, cx G 1, cx z 0, cx z 1, cx z 2, cx z 3, cx z 4⟩ (fun hHeld => ?_); refine with_tabW spec_l2PutEdge.tab5 spec_l2PutEdge.bits5 (fun HT_ HW_ => ?_)
          generalize cE.drew = eb at ac aw G z J aY HK HB aE hHeld ⊢
          refine pu 0 29 ?_
          refine pu 2 31 ?_
          refine pu 7 36 ?_
          refine tk 1 30 ?_
          refine pu 3 32 ?_
          refine tk 4 33 ?_
          refine on 5 34 (fun K hK => ?_)
          refine va ?_
          refine hK.out _ _ ⟨cx G 0, cx G 1, cx z 0, cx z 1, cx z 2, cx z 3, cx z 4⟩ (fun hHeld => ?_)
          clear hK K
          refine nrm 34 ?_
          refine on 6 35 (fun K hK => ?_)
          refine Kd.R_append_step k56 (w0 := w0) w0.heap.size (by rfl) (.tmp 32) (.tmp 34) 32 56 (.agg #[(.int .i64 0), (.int .i64 0), (.int .i64 0), (.int .i64 0), (.int .i64 0)]) 40 rfl Try.underlying32 info56 rfl (by decide) (by omega) (.slice (some ae) ai.length af) ai (⟨X, (⟨Y, Z⟩ : S36), (⟨aa, ab⟩ : S36)⟩ : S56) [.int .i64 X, .int .i64 Y, .int .i64 Z, .int .i64 aa, .int .i64 ab] (fun k_ => ((O k_ ∨ T k_) ∨ w.heap.size ≤ k_) ∧ some k_ ≠ (di : Value).ownBlock ∧ k_ ≠ I) (fun _ => False) rfl rfl ?aP (fun _ hk => hk.elim) ?aF ?aO ?aB ?aS ?aL ?_
          (case aP => exact k56_mkM _ _ _ (⟨X, (⟨Y, Z⟩ : S36), (⟨aa, ab⟩ : S36)⟩ : S56))
          (case aB => exact (bs HB.out))
          (case aF => exact (fun k_ hk => ⟨(.inr (Nat.le_trans (by first | exact HK.out.1 | exact (show Kept w _ (fun k_ => O k_ ∨ T k_) from ts HK.out).1) hk)), Kd.fresh' (rk aw) k_ hk, Kd.freshB (g := I) (o := .cells #[.int .i64 X, .int .i64 Y, .int .i64 Z, .int .i64 aa, .int .i64 ab] 56 (0, 0)) (bf z.out) k_ hk⟩))
          (case aO => exact (by (with_reducible repeat (first | apply Kd.R_alloc | apply Kd.R_drewN | apply Kd.R_drew)); exact Kd.R_mono aE.out (fun _ hk => ⟨hk.1.1, ⟨hk.2, hk.1.2⟩⟩)))
          (case aS => exact (below_size (bs HB.out)))
          (case aL => have := c5.out; omega)
          intro dl ec ho hb hg hat
          rw [← c6.out] at ho
          replace ac := am (Kd.R_over' (rl ac.out) (Kd.R_typed (rl aE.out)) (by decide) hg)
          replace G := gr G aE hg
          replace z := am (blk_grown (g := I) (o := .cells #[.int .i64 X, .int .i64 Y, .int .i64 Z, .int .i64 aa, .int .i64 ab] 56 (0, 0)) (bf z.out) hg (Kd.R_away aE.out (fun _ hk => hk.1.2)))
          replace J := gr J aE hg
          replace aw := am (Kd.R_after (ok := (fun k_ => ((O k_ ∨ T k_) ∨ w.heap.size ≤ k_) ∧ k_ ≠ I)) (by (with_reducible repeat (first | apply Kd.R_alloc | apply Kd.R_drewN | apply Kd.R_drew)); exact Kd.R_mono aw.out (fun _ hk => ⟨⟨hk.1, hk.2.2⟩, fun e_ => hk.2.1 (e_.trans ob)⟩)) hg hat)
          replace HB := am hb
          replace HK := am (Kept.of_grown (S := (fun k_ => O k_ ∨ T k_)) hg (ts HK.out) (fun k_ e_ => (aE.out.1 k_ e_).1.1))
          have aK := am ho
          clear aE
          clear ho hb hg hat
          obtain ⟨dm, dp, cH⟩ := Kd.R_slice aw.out
          (first | subst cH | (injection cH with ax aM ay; have aN := ax.symm; have aQ := ay.symm; clear ax aM ay; subst aN; subst aQ))
          refine hK.out _ _ ⟨cx G 0, cx G 1, cx z 0, cx z 1, cx z 2, cx z 3, cx z 4⟩ (fun hHeld => ?_)
          clear hK K
          refine nrm 35 ?_
          refine on 8 37 (fun K hK => ?_)
          refine Kd.R_append_rows_step k56 (w0 := w0) w0.heap.size (by rfl) (.tmp 35) (.tmp 36) 32 56 (.agg #[(.int .i64 0), (.int .i64 0), (.int .i64 0), (.int .i64 0), (.int .i64 0)]) 40 rfl Try.underlying32 info56 rfl (by decide) (by omega) dl ag ah _ _ _ (fun k_ => ((O k_ ∨ T k_) ∨ w.heap.size ≤ k_) ∧ some k_ ≠ (.slice dm ah.length dp : Value).ownBlock ∧ k_ ≠ I) (fun _ => False) rfl rfl ?aO ?aR (fun _ _ h => h) (fun _ h => h.elim) ?aF ?aB ?aS ?aL ?_
          (case aR => exact cr aw)
          (case aB => exact (bs HB.out))
          (case aF => exact (fun k_ hk => ⟨(.inr (Nat.le_trans (by first | exact HK.out.1 | exact (show Kept w _ (fun k_ => O k_ ∨ T k_) from ts HK.out).1) hk)), Kd.fresh' (rk aw) k_ hk, Kd.freshB (g := I) (o := .cells #[.int .i64 X, .int .i64 Y, .int .i64 Z, .int .i64 aa, .int .i64 ab] 56 (0, 0)) (bf z.out) k_ hk⟩))
          (case aO => exact (rl aK.out))
          (case aS => exact (below_size (bs HB.out)))
          (case aL => have := c7.out; omega)
          intro ed b5 ho hb hg hat
          rw [← da.out] at ho
          replace ac := am (Kd.R_over' (rl ac.out) (Kd.R_typed (rl aK.out)) (by decide) hg)
          replace G := gr G aK hg
          replace z := am (blk_grown (g := I) (o := .cells #[.int .i64 X, .int .i64 Y, .int .i64 Z, .int .i64 aa, .int .i64 ab] 56 (0, 0)) (bf z.out) hg (Kd.R_away aK.out (fun _ hk => hk.2.2)))
          replace J := gr J aK hg
          replace aw := am (Kd.R_after (ok := (fun k_ => ((O k_ ∨ T k_) ∨ w.heap.size ≤ k_) ∧ k_ ≠ I)) (rl aw.out) hg hat)
          replace HB := am hb
          replace HK := am (Kept.of_grown (S := (fun k_ => O k_ ∨ T k_)) hg (ts HK.out) (fun k_ e_ => (aK.out.1 k_ e_).1))
          have cI := am ho
          clear aK
          clear ho hb hg hat
          obtain ⟨bj, bk, cJ⟩ := Kd.R_slice cI.out
          (first | subst cJ | (injection cJ with ax aM ay; have aN := ax.symm; have aQ := ay.symm; clear ax aM ay; subst aN; subst aQ))
          refine hK.out _ _ ⟨cx G 0, cx G 1, cx z 0, cx z 1, cx z 2, cx z 3, cx z 4⟩ (fun hHeld => ?_)
          clear hK K
          refine nrm 37 ?_
          refine pu 9 38 ?_
          refine la0 10 (fun K hK => ?_)
          have ee : b5.cell? ⟨aj, 1, none⟩ = some (.slice (some ae) D.length af) := cx G 1
          have ef := blk_frozen G.out 1
          have eg := bu.out
          have eh := bw.out
          have ei := bt.out
          have ej := bv.out
          refine sk ?_
          refine hK.out _ _ ?_
          clear hK K
          refine dn ?_
          obtain ⟨ek, el⟩ := bc2 (w := b5) G.out
          have em := blk_frozen G.out
          have en := cp.out
          have eo := co.out
          obtain ⟨ep, eq⟩ := bc2 (w := b5) J.out
          have er := blk_frozen J.out
          try go_wp2
          refine bodyPost_ret (results_cell_row rfl _ _ av 34 #[.slice aq ad.length ar, .slice bj aW.length bk] (0, 0) _ rfl (bp J.out rfl) Try.underlying34 rfl (by kernel_rfl)) rfl ?_
          exact ⟨_, _, eqr, by (with_reducible repeat (first | apply Kd.R_alloc | apply Kd.R_drewN | apply Kd.R_drew)); exact Kd.R_mono (Kd.R_far (p := ⟨av, 1, none⟩) (Kd.R_far (p := ⟨av, 0, none⟩) (Kd.R_far (p := ⟨aj, 1, none⟩) (Kd.R_types (Kd.R_types ac.out G.out (by decide)) J.out (by decide)) (fun _ hk => hk.1.2) (.slice bj aW.length bk)) (fun _ hk => hk.2) (.slice aq ad.length ar)) (fun _ hk => hk.2) (.slice bj aW.length bk)) (fun _ hk => hk.1.1), by (with_reducible repeat (first | apply Kd.R_alloc | apply Kd.R_drewN | apply Kd.R_drew)); exact Kd.R_mono (Kd.R_far (p := ⟨av, 1, none⟩) (Kd.R_far (p := ⟨av, 0, none⟩) (Kd.R_far (p := ⟨aj, 1, none⟩) (Kd.R_types (Kd.R_types cI.out G.out (by decide)) J.out (by decide)) (fun _ hk => hk.1.2) (.slice bj aW.length bk)) (fun _ hk => hk.2) (.slice aq ad.length ar)) (fun _ hk => hk.2) (.slice bj aW.length bk)) (fun _ hk => hk.1.1.1), bs HB.out, ts HK.out⟩
         ·rw [if_neg bC] at H
          exact absurd H (by simp)
        ·rw [if_neg bB] at H
         exact absurd H (by simp)
       ·rw [if_neg bA] at H
        exact absurd H (by simp)
      ·rw [if_neg bh] at H
       exact absurd H (by simp)
    ·rw [if_neg c9] at H
     exact absurd H (by simp)
   ·rw [if_neg c8] at H
    have c0 : decide (y < (D.length : Int)) = false := decide_eq_false c8
    clear c8
    obtain ⟨aT, b6⟩ : ∃ y_ : List (S56), y_ = (([] : List (S56))) := ⟨_, rfl⟩
    replace H : (if 0 ≤ y then (if y ≤ (D.length : Int) then ((some (D.drop (y : Int).toNat : List (S56))).bind fun ap => (if aT.length + ap.length < 3518437208883 then ((some (aT ++ ap : List (S56))).bind fun an => ((some (D.take (y : Int).toNat : List (S56))).bind fun ao => (if ao.length < 3518437208883 then ((some (ao ++ [(⟨X, (⟨Y, Z⟩ : S36), (⟨aa, ab⟩ : S36)⟩ : S56)] : List (S56))).bind fun al => (if al.length + an.length < 3518437208883 then (some (ad, (al ++ an))) else (none))) else (none)))) else (none))) else (none)) else (none)) = some (r1, r2) := by first | (rw [b6]; exact H) | exact H
    have cK := am b6
    clear b6
    by_cases bl : 0 ≤ y
    ·rw [if_pos bl] at H
     have es := eq_true bl
     have et : decide (0 ≤ y) = true := decide_eq_true bl
     clear bl
     by_cases bm : y ≤ (D.length : Int)
     ·rw [if_pos bm] at H
      have eu := eq_true bm
      have ev : decide (y ≤ (D.length : Int)) = true := decide_eq_true bm
      clear bm
      obtain ⟨ap, b7⟩ : ∃ y_ : List (S56), y_ = (D.drop (y : Int).toNat) := ⟨_, rfl⟩
      replace H : (if aT.length + ap.length < 3518437208883 then ((some (aT ++ ap : List (S56))).bind fun an => ((some (D.take (y : Int).toNat : List (S56))).bind fun ao => (if ao.length < 3518437208883 then ((some (ao ++ [(⟨X, (⟨Y, Z⟩ : S36), (⟨aa, ab⟩ : S36)⟩ : S56)] : List (S56))).bind fun al => (if al.length + an.length < 3518437208883 then (some (ad, (al ++ an))) else (none))) else (none)))) else (none)) = some (r1, r2) := by first | (rw [b7]; exact H) | exact H
      have b8 := am b7
      clear b7
      by_cases bG : aT.length + ap.length < 3518437208883
      ·rw [if_pos bG] at H
       have dq := am bG
       clear bG
       obtain ⟨an, b9⟩ : ∃ y_ : List (S56), y_ = (aT ++ ap) := ⟨_, rfl⟩
       replace H : ((some (D.take (y : Int).toNat : List (S56))).bind fun ao => (if ao.length < 3518437208883 then ((some (ao ++ [(⟨X, (⟨Y, Z⟩ : S36), (⟨aa, ab⟩ : S36)⟩ : S56)] : List (S56))).bind fun al => (if al.length + an.length < 3518437208883 then (some (ad, (al ++ an))) else (none))) else (none))) = some (r1, r2) := by first | (rw [b9]; exact H) | exact H
       have dr := am b9
       clear b9
       have ew := eq_true (oda : y ≤ (D.length : Int))
       obtain ⟨ao, ce⟩ : ∃ y_ : List (S56), y_ = (D.take (y : Int).toNat) := ⟨_, rfl⟩
       replace H : (if ao.length < 3518437208883 then ((some (ao ++ [(⟨X, (⟨Y, Z⟩ : S36), (⟨aa, ab⟩ : S36)⟩ : S56)] : List (S56))).bind fun al => (if al.length + an.length < 3518437208883 then (some (ad, (al ++ an))) else (none))) else (none)) = some (r1, r2) := by first | (rw [ce]; exact H) | exact H
       have cL := am ce
       clear ce
       by_cases bH : ao.length < 3518437208883
       ·rw [if_pos bH] at H
        have dt := am bH
        clear bH
        obtain ⟨al, cf⟩ : ∃ y_ : List (S56), y_ = (ao ++ [(⟨X, (⟨Y, Z⟩ : S36), (⟨aa, ab⟩ : S36)⟩ : S56)]) := ⟨_, rfl⟩
        replace H : (if al.length + an.length < 3518437208883 then (some (ad, (al ++ an))) else (none)) = some (r1, r2) := by first | (rw [cf]; exact H) | exact H
        have du := am cf
        clear cf
        by_cases bI : al.length + an.length < 3518437208883
        ·rw [if_pos bI] at H
         have dv := am bI
         clear bI
         obtain ⟨aZ, cg⟩ : ∃ y_ : List (S56), y_ = (al ++ an) := ⟨_, rfl⟩
         replace H : (some (ad, aZ)) = some (r1, r2) := by first | (rw [cg]; exact H) | exact H
         have dw := am cg
         clear cg
         simp only [Option.some.injEq, Prod.mk.injEq] at H
         obtain ⟨rfl, rfl⟩ := H
         try go_wp2
         replace ac := rd_ ac
         replace L := rd_ L
         replace G := bd G
         replace z := bd z
         replace J := bd J
         replace HK := am (Kept.drew HK.out)
         replace HB := hd HB
         refine sta 14 (fun w' => w'.cell? ⟨aj, 0, none⟩ = some (.slice aq ad.length ar) ∧ w'.cell? ⟨aj, 1, none⟩ = some (.slice au D.length af)) [] ⟨cx G 0, cx G 1⟩ (fun hHeld => ?_); refine with_tabW spec_l2PutEdge.tab2 spec_l2PutEdge.bits2 (fun HT_ HW_ => ?_)
         generalize wr.drew = ex at ac L G z J HK HB hHeld ⊢
         refine pu 0 7 ?_
         refine pu 1 8 ?_
         refine tk 2 9 ?_
         refine pu 3 10 ?_
         refine pu 4 11 ?_
         refine pu 5 12 ?_
         refine ud 6 13 ?_
         refine ud 7 14 ?_
         refine ud 8 15 ?_
         refine ud 9 16 ?_
         refine ud 10 17 ?_
         refine ud 11 18 ?_
         refine ud 12 19 ?_
         refine pu 13 20 ?_
         refine dn ?_
         try go_wp2_with (first | ((with_reducible refine gd 23 rfl ?_); refine Kd.R_lit k56 _ 56 ?hg (N := 23) ?hd (xs := ([] : List (S56))) (inner := []) (ok := fun _ => True) (okp := fun _ => True) ?hr ?hp (fun _ hk => hk) trivial (Below.refl _ _) (Nat.le_refl _) (by simp) ?_; (case hd => rfl); (case hg => rfl); (case hr => first | (go_simp; done) | (go_simp; rfl)); (case hp => exact (Reps.none _ _)); intro dx dy a7 hb hg_ hnew_; clear hg_ hnew_; (first | rw [← cK.out] at a7 | (simp only [Int.reduceToNat] at a7; rw [← cK.out] at a7)); replace ac := rb ac hb; have aU := am (Kd.R_lower (Kd.R_newB (Kd.R_new' (Kd.R_newM (M := fun k_ => ((O k_ ∨ T k_) ∨ w.heap.size ≤ k_)) a7 (by first | exact HK.out.1 | exact (show Kept w _ (fun k_ => O k_ ∨ T k_) from ts HK.out).1) (fun k_ h_ => .inr h_)) (rk L)) (g := I) (o := .cells #[.int .i64 X, .int .i64 Y, .int .i64 Z, .int .i64 aa, .int .i64 ab] 56 (0, 0)) (bf z.out)) (below_size (bs HB.out))); replace L := re L a7 hb; replace G := bb G hb rfl; replace z := bb z hb rfl; replace J := bb J hb rfl; replace HK := kl HK hb; replace HB := hs HB hb; clear hb a7; have ey := bt.out; have ez := bu.out; have eA := bv.out; have eB := bw.out; obtain ⟨eC, eD⟩ := bc2 (w := dy) G.out; have eE := blk_frozen G.out; have ch : (y : Int) ≤ ((D.length : Int) : Int) := oda; obtain ⟨eF, cM, _, cN, _⟩ := info_parts info56; have ci : D.length ≤ af := (Kd.R_reads' L.out).2.1; have cO : Kd.C k56 _ au D.length D := (Kd.R_reads' L.out).2.2; have dz : (0 : Int) ≤ (y : Int) := oda; have dA := cut_from (P := Try.prog) 32 56 .i64 Try.underlying32 cM 5 cN au D.length af y dz ch; have bn := Kd.C_drop (m := (y : Int).toNat) (c := af) cO (by omega) ci; obtain ⟨cP, bJ⟩ : ∃ A1, A1 = (if af = (y : Int).toNat then au else (au : Option Addr).map (·.add ((y : Int).toNat * 5))) := ⟨_, rfl⟩; obtain ⟨dB, cj⟩ : ∃ c1, c1 = af - (y : Int).toNat := ⟨_, rfl⟩; have bK : ap.length = D.length - (y : Int).toNat := (by rw [b8.out, List.length_drop] <;> omega); rw [show (D).drop (y : Int).toNat = ap from b8.out.symm] at bn; replace bn : Kd.C k56 _ cP ap.length ap := (by rw [bJ]; exact bn); rw [← bK, ← bJ, ← cj] at dA; have a8 := am bn; have eG := am (show ap.length ≤ dB from by rw [bK, cj]; exact Nat.sub_le_sub_right ci _); clear bn cO ci cM cN cj; have eH := am bK; have dC := am bJ; clear bK bJ; have dD := am (show (y : Int).toNat ≤ D.length from by omega); replace ch := eq_true ch) | ((with_reducible refine gate_builtin (b := .append) (xs := #[.tmp 23, .tmp 27]) rfl ?_); at_builtin; refine Kd.R_append_rows k56 (w0 := w0) w0.heap.size rfl (.tmp 23) (.tmp 27) 32 56 (.agg #[(.int .i64 0), (.int .i64 0), (.int .i64 0), (.int .i64 0), (.int .i64 0)]) 40 rfl Try.underlying32 info56 rfl (by decide) (by omega) dx aT ap _ _ _ (fun k_ => ((O k_ ∨ T k_) ∨ w.heap.size ≤ k_) ∧ some k_ ≠ (.slice au D.length af : Value).ownBlock ∧ k_ ≠ I) (fun _ => False) rfl rfl ?aO ?aR (fun _ _ h => h) (fun _ h => h.elim) ?aF ?aB ?aS ?aL ?_; (case aR => repeat (first | exact (by repeat (first | (with_reducible exact a8.out) | (with_reducible refine Kd.C_alloc ?_ _) | (with_reducible refine Kd.C_drewN ?_ _) | (with_reducible refine Kd.C_drew ?_) | exact a8.out)) | (with_reducible refine Kd.C_alloc ?_ _) | (with_reducible refine Kd.C_drewN ?_ _) | (with_reducible refine Kd.C_drew ?_))); (case aB => exact (bs HB.out)); (case aF => exact (fun k_ hk => ⟨(.inr (Nat.le_trans (by first | exact HK.out.1 | exact (show Kept w _ (fun k_ => O k_ ∨ T k_) from ts HK.out).1) hk)), Kd.fresh' (rk L) k_ hk, Kd.freshB (g := I) (o := .cells #[.int .i64 X, .int .i64 Y, .int .i64 Z, .int .i64 aa, .int .i64 ab] 56 (0, 0)) (bf z.out) k_ hk⟩)); (case aO => exact (by (with_reducible repeat (first | apply Kd.R_alloc | apply Kd.R_drewN | apply Kd.R_drew)); exact Kd.R_mono aU.out (fun _ hk => ⟨hk.1.1.1, ⟨hk.1.2, hk.2⟩⟩))); (case aS => exact (below_size (bs HB.out))); (case aL => have := dq.out; omega); intro dE cQ ho hb hg hat; rw [← dr.out] at ho; replace ac := am (Kd.R_over' (rl ac.out) (Kd.R_typed (rl aU.out)) (by decide) hg); replace G := gr G aU hg; replace z := am (blk_grown (g := I) (o := .cells #[.int .i64 X, .int .i64 Y, .int .i64 Z, .int .i64 aa, .int .i64 ab] 56 (0, 0)) (bf z.out) hg (Kd.R_away aU.out (fun _ hk => hk.2))); replace J := gr J aU hg; replace HB := am hb; replace HK := am (Kept.of_grown (S := (fun k_ => O k_ ∨ T k_)) hg (ts HK.out) (fun k_ e_ => (aU.out.1 k_ e_).1.1.1)); replace a8 := am ((show Kd.C k56 cQ cP ap.length ap from by rw [b8.out, dC.out]; exact Kd.C_drop (m := (y : Int).toNat) (c := af) ((Kd.R_reads' (Kd.R_after (ok := (fun k_ => ((O k_ ∨ T k_) ∨ w.heap.size ≤ k_) ∧ k_ ≠ I)) (rl L.out) hg hat)).2.2) dD.out ((Kd.R_reads' (Kd.R_after (ok := (fun k_ => ((O k_ ∨ T k_) ∨ w.heap.size ≤ k_) ∧ k_ ≠ I)) (rl L.out) hg hat)).2.1))); replace L := am (Kd.R_after (ok := (fun k_ => ((O k_ ∨ T k_) ∨ w.heap.size ≤ k_) ∧ k_ ≠ I)) (rl L.out) hg hat); have az := am ho; clear aU; clear ho hb hg hat))
         replace ac := rd_ ac
         replace L := rd_ L
         replace az := rd_ az
         replace G := bd G
         replace z := bd z
         replace J := bd J
         replace a8 := am (Kd.C_drew a8.out)
         replace HK := am (Kept.drew HK.out)
         replace HB := hd HB
         have ck : (y : Int) ≤ ((D.length : Int) : Int) := oda
         obtain ⟨eI, cR, _, dF, _⟩ := info_parts info56
         have dG := cut_to (P := Try.prog) 32 56 .i64 Try.underlying32 cR au D.length af y (oda) ck (Kd.R_reads' L.out).2.1
         have bL := Kd.R_take (m := (y : Int).toNat) L.out (by omega)
         have cS : ao.length = (y : Int).toNat := (by rw [cL.out, List.length_take]; omega)
         rw [← cL.out] at bL
         rw [← cS] at bL dG
         clear cS cR dF L
         have aG := am bL
         clear bL
         replace ck := eq_true ck
         refine sta 11 (fun w' => w'.cell? ⟨aj, 0, none⟩ = some (.slice aq ad.length ar) ∧ w'.cell? ⟨aj, 1, none⟩ = some (.slice au D.length af) ∧ w'.cell? ⟨I, 0, none⟩ = some (.int .i64 X) ∧ w'.cell? ⟨I, 1, none⟩ = some (.int .i64 Y) ∧ w'.cell? ⟨I, 2, none⟩ = some (.int .i64 Z) ∧ w'.cell? ⟨I, 3, none⟩ = some (.int .i64 aa) ∧ w'.cell? ⟨I, 4, none⟩ = some (.int .i64 ab)) [10] ⟨cx G 0, cx G 1, cx z 0, cx z 1, cx z 2, cx z 3, cx z 4⟩ (fun hHeld => ?_); refine with_tabW spec_l2PutEdge.tab5 spec_l2PutEdge.bits5 (fun HT_ HW_ => ?_)
         generalize cQ.drew = eJ at ac az G z J a8 HK HB aG hHeld ⊢
         refine pu 0 29 ?_
         refine pu 2 31 ?_
         refine pu 7 36 ?_
         refine tk 1 30 ?_
         refine pu 3 32 ?_
         refine tk 4 33 ?_
         refine on 5 34 (fun K hK => ?_)
         refine va ?_
         refine hK.out _ _ ⟨cx G 0, cx G 1, cx z 0, cx z 1, cx z 2, cx z 3, cx z 4⟩ (fun hHeld => ?_)
         clear hK K
         refine nrm 34 ?_
         refine on 6 35 (fun K hK => ?_)
         refine Kd.R_append_step k56 (w0 := w0) w0.heap.size (by rfl) (.tmp 32) (.tmp 34) 32 56 (.agg #[(.int .i64 0), (.int .i64 0), (.int .i64 0), (.int .i64 0), (.int .i64 0)]) 40 rfl Try.underlying32 info56 rfl (by decide) (by omega) (.slice au ao.length af) ao (⟨X, (⟨Y, Z⟩ : S36), (⟨aa, ab⟩ : S36)⟩ : S56) [.int .i64 X, .int .i64 Y, .int .i64 Z, .int .i64 aa, .int .i64 ab] (fun k_ => ((O k_ ∨ T k_) ∨ w.heap.size ≤ k_) ∧ some k_ ≠ (dE : Value).ownBlock ∧ k_ ≠ I) (fun _ => False) rfl rfl ?aP (fun _ hk => hk.elim) ?aF ?aO ?aB ?aS ?aL ?_
         (case aP => exact k56_mkM _ _ _ (⟨X, (⟨Y, Z⟩ : S36), (⟨aa, ab⟩ : S36)⟩ : S56))
         (case aB => exact (bs HB.out))
         (case aF => exact (fun k_ hk => ⟨(.inr (Nat.le_trans (by first | exact HK.out.1 | exact (show Kept w _ (fun k_ => O k_ ∨ T k_) from ts HK.out).1) hk)), Kd.fresh' (rk az) k_ hk, Kd.freshB (g := I) (o := .cells #[.int .i64 X, .int .i64 Y, .int .i64 Z, .int .i64 aa, .int .i64 ab] 56 (0, 0)) (bf z.out) k_ hk⟩))
         (case aO => exact (by (with_reducible repeat (first | apply Kd.R_alloc | apply Kd.R_drewN | apply Kd.R_drew)); exact Kd.R_mono aG.out (fun _ hk => ⟨hk.1.1, ⟨hk.2, hk.1.2⟩⟩)))
         (case aS => exact (below_size (bs HB.out)))
         (case aL => have := dt.out; omega)
         intro dH eK ho hb hg hat
         rw [← du.out] at ho
         replace ac := am (Kd.R_over' (rl ac.out) (Kd.R_typed (rl aG.out)) (by decide) hg)
         replace G := gr G aG hg
         replace z := am (blk_grown (g := I) (o := .cells #[.int .i64 X, .int .i64 Y, .int .i64 Z, .int .i64 aa, .int .i64 ab] 56 (0, 0)) (bf z.out) hg (Kd.R_away aG.out (fun _ hk => hk.1.2)))
         replace J := gr J aG hg
         replace az := am (Kd.R_after (ok := (fun k_ => ((O k_ ∨ T k_) ∨ w.heap.size ≤ k_) ∧ k_ ≠ I)) (by (with_reducible repeat (first | apply Kd.R_alloc | apply Kd.R_drewN | apply Kd.R_drew)); exact Kd.R_mono az.out (fun _ hk => ⟨⟨hk.1, hk.2.2⟩, fun e_ => hk.2.1 (e_.trans ob)⟩)) hg hat)
         replace HB := am hb
         replace HK := am (Kept.of_grown (S := (fun k_ => O k_ ∨ T k_)) hg (ts HK.out) (fun k_ e_ => (aG.out.1 k_ e_).1.1))
         have aV := am ho
         clear aG
         clear ho hb hg hat
         obtain ⟨dI, dJ, cT⟩ := Kd.R_slice az.out
         (first | subst cT | (injection cT with ax aM ay; have aN := ax.symm; have aQ := ay.symm; clear ax aM ay; subst aN; subst aQ))
         refine hK.out _ _ ⟨cx G 0, cx G 1, cx z 0, cx z 1, cx z 2, cx z 3, cx z 4⟩ (fun hHeld => ?_)
         clear hK K
         refine nrm 35 ?_
         refine on 8 37 (fun K hK => ?_)
         refine Kd.R_append_rows_step k56 (w0 := w0) w0.heap.size (by rfl) (.tmp 35) (.tmp 36) 32 56 (.agg #[(.int .i64 0), (.int .i64 0), (.int .i64 0), (.int .i64 0), (.int .i64 0)]) 40 rfl Try.underlying32 info56 rfl (by decide) (by omega) dH al an _ _ _ (fun k_ => ((O k_ ∨ T k_) ∨ w.heap.size ≤ k_) ∧ some k_ ≠ (.slice dI an.length dJ : Value).ownBlock ∧ k_ ≠ I) (fun _ => False) rfl rfl ?aO ?aR (fun _ _ h => h) (fun _ h => h.elim) ?aF ?aB ?aS ?aL ?_
         (case aR => exact cr az)
         (case aB => exact (bs HB.out))
         (case aF => exact (fun k_ hk => ⟨(.inr (Nat.le_trans (by first | exact HK.out.1 | exact (show Kept w _ (fun k_ => O k_ ∨ T k_) from ts HK.out).1) hk)), Kd.fresh' (rk az) k_ hk, Kd.freshB (g := I) (o := .cells #[.int .i64 X, .int .i64 Y, .int .i64 Z, .int .i64 aa, .int .i64 ab] 56 (0, 0)) (bf z.out) k_ hk⟩))
         (case aO => exact (rl aV.out))
         (case aS => exact (below_size (bs HB.out)))
         (case aL => have := dv.out; omega)
         intro eL cl ho hb hg hat
         rw [← dw.out] at ho
         replace ac := am (Kd.R_over' (rl ac.out) (Kd.R_typed (rl aV.out)) (by decide) hg)
         replace G := gr G aV hg
         replace z := am (blk_grown (g := I) (o := .cells #[.int .i64 X, .int .i64 Y, .int .i64 Z, .int .i64 aa, .int .i64 ab] 56 (0, 0)) (bf z.out) hg (Kd.R_away aV.out (fun _ hk => hk.2.2)))
         replace J := gr J aV hg
         replace az := am (Kd.R_after (ok := (fun k_ => ((O k_ ∨ T k_) ∨ w.heap.size ≤ k_) ∧ k_ ≠ I)) (rl az.out) hg hat)
         replace HB := am hb
         replace HK := am (Kept.of_grown (S := (fun k_ => O k_ ∨ T k_)) hg (ts HK.out) (fun k_ e_ => (aV.out.1 k_ e_).1))
         have cU := am ho
         clear aV
         clear ho hb hg hat
         obtain ⟨bo, br, cV⟩ := Kd.R_slice cU.out
         (first | subst cV | (injection cV with ax aM ay; have aN := ax.symm; have aQ := ay.symm; clear ax aM ay; subst aN; subst aQ))
         refine hK.out _ _ ⟨cx G 0, cx G 1, cx z 0, cx z 1, cx z 2, cx z 3, cx z 4⟩ (fun hHeld => ?_)
         clear hK K
         refine nrm 37 ?_
         refine pu 9 38 ?_
         refine la0 10 (fun K hK => ?_)
         have eM : cl.cell? ⟨aj, 1, none⟩ = some (.slice au D.length af) := cx G 1
         have eN := blk_frozen G.out 1
         have eO := bu.out
         have eP := bw.out
         have eQ := bt.out
         have eR := bv.out
         refine sk ?_
         refine hK.out _ _ ?_
         clear hK K
         refine dn ?_
         obtain ⟨eS, eT⟩ := bc2 (w := cl) G.out
         have eU := blk_frozen G.out
         have eV := cp.out
         have eW := co.out
         obtain ⟨eX, eY⟩ := bc2 (w := cl) J.out
         have eZ := blk_frozen J.out
         try go_wp2
         refine bodyPost_ret (results_cell_row rfl _ _ av 34 #[.slice aq ad.length ar, .slice bo aZ.length br] (0, 0) _ rfl (bp J.out rfl) Try.underlying34 rfl (by kernel_rfl)) rfl ?_
         exact ⟨_, _, eqr, by (with_reducible repeat (first | apply Kd.R_alloc | apply Kd.R_drewN | apply Kd.R_drew)); exact Kd.R_mono (Kd.R_far (p := ⟨av, 1, none⟩) (Kd.R_far (p := ⟨av, 0, none⟩) (Kd.R_far (p := ⟨aj, 1, none⟩) (Kd.R_types (Kd.R_types ac.out G.out (by decide)) J.out (by decide)) (fun _ hk => hk.1.2) (.slice bo aZ.length br)) (fun _ hk => hk.2) (.slice aq ad.length ar)) (fun _ hk => hk.2) (.slice bo aZ.length br)) (fun _ hk => hk.1.1), by (with_reducible repeat (first | apply Kd.R_alloc | apply Kd.R_drewN | apply Kd.R_drew)); exact Kd.R_mono (Kd.R_far (p := ⟨av, 1, none⟩) (Kd.R_far (p := ⟨av, 0, none⟩) (Kd.R_far (p := ⟨aj, 1, none⟩) (Kd.R_types (Kd.R_types cU.out G.out (by decide)) J.out (by decide)) (fun _ hk => hk.1.2) (.slice bo aZ.length br)) (fun _ hk => hk.2) (.slice aq ad.length ar)) (fun _ hk => hk.2) (.slice bo aZ.length br)) (fun _ hk => hk.1.1.1), bs HB.out, ts HK.out⟩
        ·rw [if_neg bI] at H
         exact absurd H (by simp)
       ·rw [if_neg bH] at H
        exact absurd H (by simp)
      ·rw [if_neg bG] at H
       exact absurd H (by simp)
     ·rw [if_neg bm] at H
      exact absurd H (by simp)
    ·rw [if_neg bl] at H
     exact absurd H (by simp)

/-! ### spec_l2Cut: function 125 -/
def spec_l2Cut.l0 : Nat → List (S56) → Int → List (S36) → List (S56) → Int → Int → Int → Int → Int → Option ((List (S36)) × (List (S56)))
 | 0, _, _, _, _, _, _, _, _, _ => none
 | k + 1, z, s, D, y, G, I, J, L, O => if s < (y.length : Int) then (if 0 ≤ s then (if (!(((rd_T56 y s).f0) == G) || ((!(((rd_T56 y s).f1.f0) == I) || (!(((rd_T56 y s).f1.f1) == J))) || ((!(((rd_T56 y s).f2.f0) == L) || (!(((rd_T56 y s).f2.f1) == O)))))) = true then (if z.length < 3518437208883 then (spec_l2Cut.l0 k (z ++ [(⟨(rd_T56 y s).f0, (⟨(rd_T56 y s).f1.f0, (rd_T56 y s).f1.f1⟩ : S36), (⟨(rd_T56 y s).f2.f0, (rd_T56 y s).f2.f1⟩ : S36)⟩ : S56)]) (wrap64 (s + 1)) D y G I J L O) else (none)) else (spec_l2Cut.l0 k z (wrap64 (s + 1)) D y G I J L O)) else (none)) else (some (D, z))
def spec_l2Cut.f (k : Nat) (s : List (S36)) (y : List (S56)) (z : Int) (D : Int) (G : Int) (I : Int) (J : Int) : Option ((List (S36)) × (List (S56))) := spec_l2Cut.l0 k (([] : List (S56))) 0 s y z D G I J
theorem spec_l2Cut.calls (k : Nat) (I : Nat → Prop) (aG : Value) (ad : List (S36)) (an : Option Addr) (ao : Nat) (z : List (S56)) (T : Int) (X : Int) (Y : Int) (Z : Int) (aa : Int) (r1 : List (S36)) (r2 : List (S56)) (w0 w : World) (hB : Below w0.heap.size w0 w) (bm : Kd.R k36 36 w w0.heap.size I aG ad) (aW : ∀ W_, Kept w W_ (fun k_ => I k_) → Kd.C k56 W_ an z.length z) (aX : z.length ≤ ao) (h : spec_l2Cut.f k ad z T X Y Z aa = some (r1, r2)) :
  Calls Try.prog 125 #[.agg #[aG, .slice an z.length ao], .agg #[.int .i64 T, .int .i64 X, .int .i64 Y, .int .i64 Z, .int .i64 aa]] w fun e w' => ∃ aY aZ : Value, e = .returned (.agg #[aY, aZ]) ∧ Kd.R k36 36 w' w0.heap.size (fun k_ => (I k_ ∨ w.heap.size ≤ k_)) aY r1 ∧ Kd.R k56 56 w' w0.heap.size (fun k_ => (I k_ ∨ w.heap.size ≤ k_)) aZ r2 ∧ Below w0.heap.size w0 w' ∧ Kept w w' (fun k_ => I k_) := by
 have hu34 := Try.underlying34
 have hu56 := Try.underlying56
 have J := am (show Kd.R k36 36 w w0.heap.size (fun k_ => (I k_ ∨ w.heap.size ≤ k_)) aG ad from Kd.R_mono bm (fun k_ hk => (.inl hk)))
 have aH := am aW
 have bD := am aX
 clear aW aX
 have HK := am (Kept.refl w (fun k_ => I k_))
 have bE := am hB.size
 have HB := am hB
 clear hB
 have H := h; unfold spec_l2Cut.f at H
 clear h
 obtain ⟨a7, aI⟩ : ∃ y_ : List (S56), y_ = (([] : List (S56))) := ⟨_, rfl⟩
 replace H : (spec_l2Cut.l0 k a7 0 ad z T X Y Z aa) = some (r1, r2) := by first | (rw [aI]; exact H) | exact H
 have ap := am aI
 clear aI
 have H' := am H
 clear H
 obtain ⟨ah, ai, bn⟩ := Kd.R_slice J.out
 subst bn
 go_enter Try.func125, Try.ntmps125
 go_wp2_with (first | ((with_reducible refine gd 2 rfl ?_); refine bx 2 (cs := #[.slice ah ad.length ai, .slice an z.length ao]) (t := 34) ?_; intro aj hg w4 hbox hb; replace J := rb J hb; have D := am hbox; have a8 := Ge.mk ((by rw [hg]; exact (by first | exact HK.out.1 | exact (show Kept w _ (fun k_ => I k_) from ts HK.out).1) : w.heap.size ≤ aj)); replace HK := kl HK hb; have a9 := gwb HB hg; replace HB := hs HB hb; clear hb hbox hg) | ((with_reducible refine gd 3 rfl ?_); refine bx 3 (cs := #[.int .i64 T, .int .i64 X, .int .i64 Y, .int .i64 Z, .int .i64 aa]) (t := 56) ?_; intro ab hg w5 hbox hb; replace J := rb J hb; have G := am hbox; have ba := Ge.mk ((by rw [hg]; exact (by first | exact HK.out.1 | exact (show Kept w _ (fun k_ => I k_) from ts HK.out).1) : w.heap.size ≤ ab)); replace HK := kl HK hb; have bc := gwb HB hg; replace HB := hs HB hb; have ar := nq D hg; have au := nq' D hg; replace D := bb D hb rfl; clear hb hbox hg) | ((with_reducible refine gd 4 rfl ?_); refine bx 4 (cs := #[.slice none 0 0, .slice none 0 0]) (t := 34) ?_; intro af hg w6 hbox hb; replace J := rb J hb; have O := am hbox; have be := Ge.mk ((by rw [hg]; exact (by first | exact HK.out.1 | exact (show Kept w _ (fun k_ => I k_) from ts HK.out).1) : w.heap.size ≤ af)); replace HK := kl HK hb; have bg := gwb HB hg; replace HB := hs HB hb; have av := nq D hg; have aw := nq' D hg; replace D := bb D hb rfl; have ax := nq G hg; have ay := nq' G hg; replace G := bb G hb rfl; clear hb hbox hg) | ((with_reducible refine gd 7 rfl ?_); refine Kd.R_lit k56 _ 56 ?hg (N := 7) ?hd (xs := ([] : List (S56))) (inner := []) (ok := fun _ => True) (okp := fun _ => True) ?hr ?hp (fun _ hk => hk) trivial (Below.refl _ _) (Nat.le_refl _) (by simp) ?_; (case hd => rfl); (case hg => rfl); (case hr => first | (go_simp; done) | (go_simp; rfl)); (case hp => exact (Reps.none _ _)); intro bh w7 ac hb hg_ hnew_; clear hg_ hnew_; (first | rw [← ap.out] at ac | (simp only [Int.reduceToNat] at ac; rw [← ap.out] at ac)); replace J := rb J hb; have aJ := am (Kd.R_lower (Kd.R_newB (Kd.R_newM (M := fun k_ => (I k_ ∨ w.heap.size ≤ k_)) ac (by first | exact HK.out.1 | exact (show Kept w _ (fun k_ => I k_) from ts HK.out).1) (fun k_ h_ => .inr h_)) (g := ab) (o := .cells #[.int .i64 T, .int .i64 X, .int .i64 Y, .int .i64 Z, .int .i64 aa] 56 (0, 0)) (bf G.out)) (below_size (bs HB.out))); replace D := bb D hb rfl; replace G := bb G hb rfl; replace O := bb O hb rfl; replace HK := kl HK hb; replace HB := hs HB hb; clear hb ac))
 repeat (go_quiet (first | ((with_reducible refine gd 2 rfl ?_); refine bx 2 (cs := #[.slice ah ad.length ai, .slice an z.length ao]) (t := 34) ?_; intro aj hg w4 hbox hb; replace J := rb J hb; have D := am hbox; have a8 := Ge.mk ((by rw [hg]; exact (by first | exact HK.out.1 | exact (show Kept w _ (fun k_ => I k_) from ts HK.out).1) : w.heap.size ≤ aj)); replace HK := kl HK hb; have a9 := gwb HB hg; replace HB := hs HB hb; clear hb hbox hg) | ((with_reducible refine gd 3 rfl ?_); refine bx 3 (cs := #[.int .i64 T, .int .i64 X, .int .i64 Y, .int .i64 Z, .int .i64 aa]) (t := 56) ?_; intro ab hg w5 hbox hb; replace J := rb J hb; have G := am hbox; have ba := Ge.mk ((by rw [hg]; exact (by first | exact HK.out.1 | exact (show Kept w _ (fun k_ => I k_) from ts HK.out).1) : w.heap.size ≤ ab)); replace HK := kl HK hb; have bc := gwb HB hg; replace HB := hs HB hb; have ar := nq D hg; have au := nq' D hg; replace D := bb D hb rfl; clear hb hbox hg) | ((with_reducible refine gd 4 rfl ?_); refine bx 4 (cs := #[.slice none 0 0, .slice none 0 0]) (t := 34) ?_; intro af hg w6 hbox hb; replace J := rb J hb; have O := am hbox; have be := Ge.mk ((by rw [hg]; exact (by first | exact HK.out.1 | exact (show Kept w _ (fun k_ => I k_) from ts HK.out).1) : w.heap.size ≤ af)); replace HK := kl HK hb; have bg := gwb HB hg; replace HB := hs HB hb; have av := nq D hg; have aw := nq' D hg; replace D := bb D hb rfl; have ax := nq G hg; have ay := nq' G hg; replace G := bb G hb rfl; clear hb hbox hg) | ((with_reducible refine gd 7 rfl ?_); refine Kd.R_lit k56 _ 56 ?hg (N := 7) ?hd (xs := ([] : List (S56))) (inner := []) (ok := fun _ => True) (okp := fun _ => True) ?hr ?hp (fun _ hk => hk) trivial (Below.refl _ _) (Nat.le_refl _) (by simp) ?_; (case hd => rfl); (case hg => rfl); (case hr => first | (go_simp; done) | (go_simp; rfl)); (case hp => exact (Reps.none _ _)); intro bh w7 ac hb hg_ hnew_; clear hg_ hnew_; (first | rw [← ap.out] at ac | (simp only [Int.reduceToNat] at ac; rw [← ap.out] at ac)); replace J := rb J hb; have aJ := am (Kd.R_lower (Kd.R_newB (Kd.R_newM (M := fun k_ => (I k_ ∨ w.heap.size ≤ k_)) ac (by first | exact HK.out.1 | exact (show Kept w _ (fun k_ => I k_) from ts HK.out).1) (fun k_ h_ => .inr h_)) (g := ab) (o := .cells #[.int .i64 T, .int .i64 X, .int .i64 Y, .int .i64 Z, .int .i64 aa] 56 (0, 0)) (bf G.out)) (below_size (bs HB.out))); replace D := bb D hb rfl; replace G := bb G hb rfl; replace O := bb O hb rfl; replace HK := kl HK hb; replace HB := hs HB hb; clear hb ac)); try go_wp2_with (first | ((with_reducible refine gd 2 rfl ?_); refine bx 2 (cs := #[.slice ah ad.length ai, .slice an z.length ao]) (t := 34) ?_; intro aj hg w4 hbox hb; replace J := rb J hb; have D := am hbox; have a8 := Ge.mk ((by rw [hg]; exact (by first | exact HK.out.1 | exact (show Kept w _ (fun k_ => I k_) from ts HK.out).1) : w.heap.size ≤ aj)); replace HK := kl HK hb; have a9 := gwb HB hg; replace HB := hs HB hb; clear hb hbox hg) | ((with_reducible refine gd 3 rfl ?_); refine bx 3 (cs := #[.int .i64 T, .int .i64 X, .int .i64 Y, .int .i64 Z, .int .i64 aa]) (t := 56) ?_; intro ab hg w5 hbox hb; replace J := rb J hb; have G := am hbox; have ba := Ge.mk ((by rw [hg]; exact (by first | exact HK.out.1 | exact (show Kept w _ (fun k_ => I k_) from ts HK.out).1) : w.heap.size ≤ ab)); replace HK := kl HK hb; have bc := gwb HB hg; replace HB := hs HB hb; have ar := nq D hg; have au := nq' D hg; replace D := bb D hb rfl; clear hb hbox hg) | ((with_reducible refine gd 4 rfl ?_); refine bx 4 (cs := #[.slice none 0 0, .slice none 0 0]) (t := 34) ?_; intro af hg w6 hbox hb; replace J := rb J hb; have O := am hbox; have be := Ge.mk ((by rw [hg]; exact (by first | exact HK.out.1 | exact (show Kept w _ (fun k_ => I k_) from ts HK.out).1) : w.heap.size ≤ af)); replace HK := kl HK hb; have bg := gwb HB hg; replace HB := hs HB hb; have av := nq D hg; have aw := nq' D hg; replace D := bb D hb rfl; have ax := nq G hg; have ay := nq' G hg; replace G := bb G hb rfl; clear hb hbox hg) | ((with_reducible refine gd 7 rfl ?_); refine Kd.R_lit k56 _ 56 ?hg (N := 7) ?hd (xs := ([] : List (S56))) (inner := []) (ok := fun _ => True) (okp := fun _ => True) ?hr ?hp (fun _ hk => hk) trivial (Below.refl _ _) (Nat.le_refl _) (by simp) ?_; (case hd => rfl); (case hg => rfl); (case hr => first | (go_simp; done) | (go_simp; rfl)); (case hp => exact (Reps.none _ _)); intro bh w7 ac hb hg_ hnew_; clear hg_ hnew_; (first | rw [← ap.out] at ac | (simp only [Int.reduceToNat] at ac; rw [← ap.out] at ac)); replace J := rb J hb; have aJ := am (Kd.R_lower (Kd.R_newB (Kd.R_newM (M := fun k_ => (I k_ ∨ w.heap.size ≤ k_)) ac (by first | exact HK.out.1 | exact (show Kept w _ (fun k_ => I k_) from ts HK.out).1) (fun k_ h_ => .inr h_)) (g := ab) (o := .cells #[.int .i64 T, .int .i64 X, .int .i64 Y, .int .i64 Z, .int .i64 aa] 56 (0, 0)) (bf G.out)) (below_size (bs HB.out))); replace D := bb D hb rfl; replace G := bb G hb rfl; replace O := bb O hb rfl; replace HK := kl HK hb; replace HB := hs HB hb; clear hb ac)))
 go_loopg [5, 6] k (fun kq v5 v6 w' => ∃ (ae : List (S56)) (y : Int), v6 = .int .i64 y ∧ Aside0 (spec_l2Cut.l0 kq ae y ad z T X Y Z aa = some (r1, r2)) ∧ Aside0 (kq ≤ k) ∧ Aside0 (Kd.R k56 56 w' w0.heap.size (fun k_ => (I k_ ∨ w.heap.size ≤ k_) ∧ k_ ≠ ab) v5 ae) ∧ Aside0 (Kd.R k36 36 w' w0.heap.size (fun k_ => (I k_ ∨ w.heap.size ≤ k_)) (.slice ah ad.length ai) ad) ∧ Aside0 (w'.heap[aj]? = some (.cells #[(.slice ah ad.length ai), (.slice an z.length ao)] 34 (0, 0))) ∧ Aside0 (w'.heap[ab]? = some (.cells #[.int .i64 T, .int .i64 X, .int .i64 Y, .int .i64 Z, .int .i64 aa] 56 (0, 0))) ∧ Aside0 (w'.heap[af]? = some (.cells #[(.slice none 0 0), (.slice none 0 0)] 34 (0, 0))) ∧ Aside0 (Kept w w' (fun k_ => I k_)) ∧ Aside0 (Below w0.heap.size w0 w'))
 case atStart => exact ⟨(a7), (0), eqs, H', ⟨Nat.le_refl _⟩, ⟨by (with_reducible repeat (first | apply Kd.R_alloc | apply Kd.R_drewN | apply Kd.R_drew)); exact Kd.R_mono aJ.out (fun _ hk => ⟨hk.1.1, hk.2⟩)⟩, ⟨rl J.out⟩, ⟨bf D.out⟩, ⟨bf G.out⟩, ⟨bf O.out⟩, ⟨ts HK.out⟩, ⟨bs HB.out⟩⟩
 case round =>
  clear H'
  try clear c1
  try clear p2
  obtain ⟨ae, y, rfl, HA, aC, L, ag, D, G, O, HK, HB⟩ := hrel
  cases gk with
  | zero => exact absurd HA.out (by simp [spec_l2Cut.l0])
  | succ k1 =>
   have H := HA.out
   clear HA
   simp only [spec_l2Cut.l0] at H
   by_cases c9 : y < (z.length : Int)
   ·rw [if_pos c9] at H
    have bo : decide (y < (z.length : Int)) = true := decide_eq_true c9
    clear c9
    by_cases aD : 0 ≤ y
    ·rw [if_pos aD] at H
     have bF : decide (0 ≤ y) = true := decide_eq_true aD
     clear aD
     by_cases aq : (!(((rd_T56 z y).f0) == T) || ((!(((rd_T56 z y).f1.f0) == X) || (!(((rd_T56 z y).f1.f1) == Y))) || ((!(((rd_T56 z y).f2.f0) == Z) || (!(((rd_T56 z y).f2.f1) == aa)))))) = true
     ·rw [if_pos aq] at H
      have br : (!(((rd_T56 z y).f0) == T) || ((!(((rd_T56 z y).f1.f0) == X) || (!(((rd_T56 z y).f1.f1) == Y))) || ((!(((rd_T56 z y).f2.f0) == Z) || (!(((rd_T56 z y).f2.f1) == aa)))))) = true := aq
      clear aq
      by_cases aE : ae.length < 3518437208883
      ·rw [if_pos aE] at H
       have aK := am aE
       clear aE
       obtain ⟨bi, aM⟩ : ∃ y_ : List (S56), y_ = (ae ++ [(⟨(rd_T56 z y).f0, (⟨(rd_T56 z y).f1.f0, (rd_T56 z y).f1.f1⟩ : S36), (⟨(rd_T56 z y).f2.f0, (rd_T56 z y).f2.f1⟩ : S36)⟩ : S56)]) := ⟨_, rfl⟩
       replace H : (spec_l2Cut.l0 k1 bi (wrap64 (y + 1)) ad z T X Y Z aa) = some (r1, r2) := by first | (rw [aM]; exact H) | exact H
       have aN := am aM
       clear aM
       have H' := am H
       clear H
       have bG := ar.out
       have bH := au.out
       have bI := av.out
       have bJ := aw.out
       obtain ⟨bK, bL⟩ := bc2 (w := wr) D.out
       have bM := blk_frozen D.out
       have ak : 0 ≤ (y : Int) := oda
       have al : y < (z.length : Int) := oda
       obtain ⟨bj, aQ, bt, bu, bv, bw, bz⟩ := at_T56 (Kd.C_kept_now aH.out HK.out) y ak al
       cases aQ
       replace ak := eq_true ak
       replace al := eq_true al
       have bN := ax.out
       have bO := ay.out
       obtain ⟨bP, bQ, bR, bS, bT⟩ := bc5 (w := wr) G.out
       have bU := blk_frozen G.out
       have aT : 0 ≤ (y : Int) := oda
       have aU : y < (z.length : Int) := oda
       obtain ⟨bA, bB, bV, bW, bX, bY, bZ⟩ := at_T56 (Kd.C_kept_now aH.out HK.out) y aT aU
       obtain rfl : bj = bA := (by injection bB)
       replace aT := eq_true aT
       replace aU := eq_true aU
       go_wp2_with (first | ((with_reducible refine gate_builtin (b := .append) (xs := #[.tmp 22, .tmp 28]) rfl ?_); at_builtin; refine Kd.R_append k56 (w0 := w0) w0.heap.size rfl (.tmp 22) (.tmp 28) 32 56 (.agg #[(.int .i64 0), (.int .i64 0), (.int .i64 0), (.int .i64 0), (.int .i64 0)]) 40 rfl Try.underlying32 info56 rfl (by decide) (by omega) u5 ae (⟨(rd_T56 z y).f0, (⟨(rd_T56 z y).f1.f0, (rd_T56 z y).f1.f1⟩ : S36), (⟨(rd_T56 z y).f2.f0, (rd_T56 z y).f2.f1⟩ : S36)⟩ : S56) [.int .i64 ((rd_T56 z y).f0), .int .i64 ((rd_T56 z y).f1.f0), .int .i64 ((rd_T56 z y).f1.f1), .int .i64 ((rd_T56 z y).f2.f0), .int .i64 ((rd_T56 z y).f2.f1)] (fun k_ => (I k_ ∨ w.heap.size ≤ k_) ∧ k_ ≠ ab) (fun _ => False) rfl rfl ?aP (fun _ hk => hk.elim) ?aF ?aO ?aB ?aS ?aL ?_; (case aP => exact k56_mkM _ _ _ (⟨(rd_T56 z y).f0, (⟨(rd_T56 z y).f1.f0, (rd_T56 z y).f1.f1⟩ : S36), (⟨(rd_T56 z y).f2.f0, (rd_T56 z y).f2.f1⟩ : S36)⟩ : S56)); (case aB => exact (bs HB.out)); (case aF => exact (fun k_ hk => ⟨(.inr (Nat.le_trans (by first | exact HK.out.1 | exact (show Kept w _ (fun k_ => I k_) from ts HK.out).1) hk)), Kd.freshB (g := ab) (o := .cells #[.int .i64 T, .int .i64 X, .int .i64 Y, .int .i64 Z, .int .i64 aa] 56 (0, 0)) (bf G.out) k_ hk⟩)); (case aO => exact (rl L.out)); (case aS => exact (below_size (bs HB.out))); (case aL => have := aK.out; omega); intro bk bl ho hb hg hat; rw [← aN.out] at ho; replace ag := am (Kd.R_over' (rl ag.out) (Kd.R_typed (rl L.out)) (by decide) hg); replace D := gr D L hg; replace G := am (blk_grown (g := ab) (o := .cells #[.int .i64 T, .int .i64 X, .int .i64 Y, .int .i64 Z, .int .i64 aa] 56 (0, 0)) (bf G.out) hg (Kd.R_away L.out (fun _ hk => hk.2))); replace O := gr O L hg; replace HB := am hb; replace HK := am (Kept.of_grown (S := (fun k_ => I k_)) hg (ts HK.out) (fun k_ e_ => (L.out.1 k_ e_).1)); have aV := am ho; clear L; clear ho hb hg hat))
       repeat (go_quiet (first | ((with_reducible refine gate_builtin (b := .append) (xs := #[.tmp 22, .tmp 28]) rfl ?_); at_builtin; refine Kd.R_append k56 (w0 := w0) w0.heap.size rfl (.tmp 22) (.tmp 28) 32 56 (.agg #[(.int .i64 0), (.int .i64 0), (.int .i64 0), (.int .i64 0), (.int .i64 0)]) 40 rfl Try.underlying32 info56 rfl (by decide) (by omega) u5 ae (⟨(rd_T56 z y).f0, (⟨(rd_T56 z y).f1.f0, (rd_T56 z y).f1.f1⟩ : S36), (⟨(rd_T56 z y).f2.f0, (rd_T56 z y).f2.f1⟩ : S36)⟩ : S56) [.int .i64 ((rd_T56 z y).f0), .int .i64 ((rd_T56 z y).f1.f0), .int .i64 ((rd_T56 z y).f1.f1), .int .i64 ((rd_T56 z y).f2.f0), .int .i64 ((rd_T56 z y).f2.f1)] (fun k_ => (I k_ ∨ w.heap.size ≤ k_) ∧ k_ ≠ ab) (fun _ => False) rfl rfl ?aP (fun _ hk => hk.elim) ?aF ?aO ?aB ?aS ?aL ?_; (case aP => exact k56_mkM _ _ _ (⟨(rd_T56 z y).f0, (⟨(rd_T56 z y).f1.f0, (rd_T56 z y).f1.f1⟩ : S36), (⟨(rd_T56 z y).f2.f0, (rd_T56 z y).f2.f1⟩ : S36)⟩ : S56)); (case aB => exact (bs HB.out)); (case aF => exact (fun k_ hk => ⟨(.inr (Nat.le_trans (by first | exact HK.out.1 | exact (show Kept w _ (fun k_ => I k_) from ts HK.out).1) hk)), Kd.freshB (g := ab) (o := .cells #[.int .i64 T, .int .i64 X, .int .i64 Y, .int .i64 Z, .int .i64 aa] 56 (0, 0)) (bf G.out) k_ hk⟩)); (case aO => exact (rl L.out)); (case aS => exact (below_size (bs HB.out))); (case aL => have := aK.out; omega); intro bk bl ho hb hg hat; rw [← aN.out] at ho; replace ag := am (Kd.R_over' (rl ag.out) (Kd.R_typed (rl L.out)) (by decide) hg); replace D := gr D L hg; replace G := am (blk_grown (g := ab) (o := .cells #[.int .i64 T, .int .i64 X, .int .i64 Y, .int .i64 Z, .int .i64 aa] 56 (0, 0)) (bf G.out) hg (Kd.R_away L.out (fun _ hk => hk.2))); replace O := gr O L hg; replace HB := am hb; replace HK := am (Kept.of_grown (S := (fun k_ => I k_)) hg (ts HK.out) (fun k_ e_ => (L.out.1 k_ e_).1)); have aV := am ho; clear L; clear ho hb hg hat)); try go_wp2_with (first | ((with_reducible refine gate_builtin (b := .append) (xs := #[.tmp 22, .tmp 28]) rfl ?_); at_builtin; refine Kd.R_append k56 (w0 := w0) w0.heap.size rfl (.tmp 22) (.tmp 28) 32 56 (.agg #[(.int .i64 0), (.int .i64 0), (.int .i64 0), (.int .i64 0), (.int .i64 0)]) 40 rfl Try.underlying32 info56 rfl (by decide) (by omega) u5 ae (⟨(rd_T56 z y).f0, (⟨(rd_T56 z y).f1.f0, (rd_T56 z y).f1.f1⟩ : S36), (⟨(rd_T56 z y).f2.f0, (rd_T56 z y).f2.f1⟩ : S36)⟩ : S56) [.int .i64 ((rd_T56 z y).f0), .int .i64 ((rd_T56 z y).f1.f0), .int .i64 ((rd_T56 z y).f1.f1), .int .i64 ((rd_T56 z y).f2.f0), .int .i64 ((rd_T56 z y).f2.f1)] (fun k_ => (I k_ ∨ w.heap.size ≤ k_) ∧ k_ ≠ ab) (fun _ => False) rfl rfl ?aP (fun _ hk => hk.elim) ?aF ?aO ?aB ?aS ?aL ?_; (case aP => exact k56_mkM _ _ _ (⟨(rd_T56 z y).f0, (⟨(rd_T56 z y).f1.f0, (rd_T56 z y).f1.f1⟩ : S36), (⟨(rd_T56 z y).f2.f0, (rd_T56 z y).f2.f1⟩ : S36)⟩ : S56)); (case aB => exact (bs HB.out)); (case aF => exact (fun k_ hk => ⟨(.inr (Nat.le_trans (by first | exact HK.out.1 | exact (show Kept w _ (fun k_ => I k_) from ts HK.out).1) hk)), Kd.freshB (g := ab) (o := .cells #[.int .i64 T, .int .i64 X, .int .i64 Y, .int .i64 Z, .int .i64 aa] 56 (0, 0)) (bf G.out) k_ hk⟩)); (case aO => exact (rl L.out)); (case aS => exact (below_size (bs HB.out))); (case aL => have := aK.out; omega); intro bk bl ho hb hg hat; rw [← aN.out] at ho; replace ag := am (Kd.R_over' (rl ag.out) (Kd.R_typed (rl L.out)) (by decide) hg); replace D := gr D L hg; replace G := am (blk_grown (g := ab) (o := .cells #[.int .i64 T, .int .i64 X, .int .i64 Y, .int .i64 Z, .int .i64 aa] 56 (0, 0)) (bf G.out) hg (Kd.R_away L.out (fun _ hk => hk.2))); replace O := gr O L hg; replace HB := am hb; replace HK := am (Kept.of_grown (S := (fun k_ => I k_)) hg (ts HK.out) (fun k_ e_ => (L.out.1 k_ e_).1)); have aV := am ho; clear L; clear ho hb hg hat)))
       go_roundg k1
       case measure => have := aC.out; omega
       case rel => exact ⟨(bi), (wrap64 (y + 1)), eqs, H', ⟨by have := aC.out; omega⟩, ⟨rl aV.out⟩, ⟨rl ag.out⟩, ⟨bf D.out⟩, ⟨bf G.out⟩, ⟨bf O.out⟩, ⟨ts HK.out⟩, ⟨bs HB.out⟩⟩
      ·rw [if_neg aE] at H
       exact absurd H (by simp)
     ·rw [if_neg aq] at H
      have br : (!(((rd_T56 z y).f0) == T) || ((!(((rd_T56 z y).f1.f0) == X) || (!(((rd_T56 z y).f1.f1) == Y))) || ((!(((rd_T56 z y).f2.f0) == Z) || (!(((rd_T56 z y).f2.f1) == aa)))))) = false := by simpa using aq
      clear aq
      have H' := am H
      clear H
      have b0 := ar.out
      have b1 := au.out
      have b2 := av.out
      have b3 := aw.out
      obtain ⟨b4, b5⟩ := bc2 (w := wr) D.out
      have b6 := blk_frozen D.out
      have ak : 0 ≤ (y : Int) := oda
      have al : y < (z.length : Int) := oda
      obtain ⟨bj, aQ, bt, bu, bv, bw, bz⟩ := at_T56 (Kd.C_kept_now aH.out HK.out) y ak al
      cases aQ
      replace ak := eq_true ak
      replace al := eq_true al
      have b7 := ax.out
      have b8 := ay.out
      obtain ⟨b9, ce, cf, cg, ch⟩ := bc5 (w := wr) G.out
      have ci := blk_frozen G.out
      go_wp2
      repeat (go_quiet (fail); try go_wp2)
      go_roundg k1
      case measure => have := aC.out; omega
      case rel => exact ⟨(ae), (wrap64 (y + 1)), eqs, H', ⟨by have := aC.out; omega⟩, ⟨rl L.out⟩, ⟨rl ag.out⟩, ⟨bf D.out⟩, ⟨bf G.out⟩, ⟨bf O.out⟩, ⟨ts HK.out⟩, ⟨bs HB.out⟩⟩
    ·rw [if_neg aD] at H
     exact absurd H (by simp)
   ·rw [if_neg c9] at H
    have bo : decide (y < (z.length : Int)) = false := decide_eq_false c9
    clear c9
    simp only [Option.some.injEq, Prod.mk.injEq] at H
    obtain ⟨rfl, rfl⟩ := H
    have cj := ar.out
    have ck := au.out
    have cl := av.out
    have cm := aw.out
    obtain ⟨cn, co⟩ := bc2 (w := wr) D.out
    have cp := blk_frozen D.out
    obtain ⟨az, aA, bC⟩ := Kd.R_slice L.out
    subst bC
    have ct := ay.out
    have cu := ax.out
    obtain ⟨cv, cy⟩ := bc2 (w := wr) O.out
    have cz := blk_frozen O.out
    go_wp2
    repeat (go_quiet (fail); try go_wp2)
    refine bodyPost_ret (results_cell_row rfl _ _ af 34 #[.slice ah ad.length ai, .slice az ae.length aA] (0, 0) _ rfl (bp O.out rfl) Try.underlying34 rfl (by kernel_rfl)) rfl ?_
    exact ⟨_, _, eqr, by (with_reducible repeat (first | apply Kd.R_alloc | apply Kd.R_drewN | apply Kd.R_drew)); exact Kd.R_mono (Kd.R_far (p := ⟨af, 1, none⟩) (Kd.R_far (p := ⟨af, 0, none⟩) (Kd.R_far (p := ⟨aj, 1, none⟩) (Kd.R_types (Kd.R_types ag.out D.out (by decide)) O.out (by decide)) (fun _ hk => hk.1.2) (.slice az ae.length aA)) (fun _ hk => hk.2) (.slice ah ad.length ai)) (fun _ hk => hk.2) (.slice az ae.length aA)) (fun _ hk => hk.1.1), by (with_reducible repeat (first | apply Kd.R_alloc | apply Kd.R_drewN | apply Kd.R_drew)); exact Kd.R_mono (Kd.R_far (p := ⟨af, 1, none⟩) (Kd.R_far (p := ⟨af, 0, none⟩) (Kd.R_far (p := ⟨aj, 1, none⟩) (Kd.R_types (Kd.R_types L.out D.out (by decide)) O.out (by decide)) (fun _ hk => hk.1.2) (.slice az ae.length aA)) (fun _ hk => hk.2) (.slice ah ad.length ai)) (fun _ hk => hk.2) (.slice az ae.length aA)) (fun _ hk => hk.1.1.1), bs HB.out, ts HK.out⟩

end Go.Proofs.Ytohmemckdogljaa.QFnExactGraphDo
