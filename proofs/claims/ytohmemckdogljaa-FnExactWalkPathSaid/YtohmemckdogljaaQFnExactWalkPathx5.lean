/- Contracts of the Go functions that this law reaches: each does what its plain Lean function says. No condition. -/
import Derived.Test.YtohmemckdogljaaQFnExactWalkPathx0
import Derived.Test.YtohmemckdogljaaQFnExactWalkPathx2
namespace Go.Proofs.Ytohmemckdogljaa.QFnExactWalkPath
open Go.RowKit Go.Proofs.YtohmemckdogljaaW.PrintWords Go.Proofs.YtohmemckdogljaaW.PrintLast Go.Proofs.YtohmemckdogljaaW.PrintMore Go.Proofs.Ytohmemckdogljaa.Bl
attribute [local go_sem] max2_int min2_int max_two min_two max_three min_three max_four min_four   -- for this text's walks alone
set_option linter.unusedVariables false
set_option linter.unusedSimpArgs false
set_option maxHeartbeats 8000000
set_option maxRecDepth 100000

/-! ### spec_l2PutNode: function 109 -/
def spec_l2PutNode.l0 : Nat → Int → List (S36) → List (S56) → Int → Int → Option ((List (S36)) × (List (S56)))
 | 0, _, _, _, _, _ => none
 | k + 1, s, y, G, z, D => if s < (y.length : Int) then (if 0 ≤ s then ((spec_l2Code.f ((rd_T36 y s).f0) ((rd_T36 y s).f1)).bind fun ac => ((spec_l2Code.f z D).bind fun ad => (if ac < ad then (spec_l2PutNode.l0 k (wrap64 (s + 1)) y G z D) else ((some (([] : List (S36)) : List (S36))).bind fun I => (if s ≤ (y.length : Int) then ((some (y.drop (s : Int).toNat : List (S36))).bind fun J => (if I.length + J.length < 8796093022208 then ((some (I ++ J : List (S36))).bind fun L => ((some (y.take (s : Int).toNat : List (S36))).bind fun O => (if O.length < 8796093022208 then ((some (O ++ [(⟨z, D⟩ : S36)] : List (S36))).bind fun T => (if T.length + L.length < 8796093022208 then (some ((T ++ L), G)) else (none))) else (none)))) else (none))) else (none)))))) else (none)) else ((some (([] : List (S36)) : List (S36))).bind fun X => (if 0 ≤ s then (if s ≤ (y.length : Int) then ((some (y.drop (s : Int).toNat : List (S36))).bind fun Y => (if X.length + Y.length < 8796093022208 then ((some (X ++ Y : List (S36))).bind fun Z => ((some (y.take (s : Int).toNat : List (S36))).bind fun aa => (if aa.length < 8796093022208 then ((some (aa ++ [(⟨z, D⟩ : S36)] : List (S36))).bind fun ab => (if ab.length + Z.length < 8796093022208 then (some ((ab ++ Z), G)) else (none))) else (none)))) else (none))) else (none)) else (none)))
def spec_l2PutNode.f (k : Nat) (s : List (S36)) (y : List (S56)) (z : Int) (D : Int) : Option ((List (S36)) × (List (S56))) := spec_l2PutNode.l0 k 0 s y z D
def spec_l2PutNode.T2 : Bool × List (List Nat × List Nat) := (true, [([], []), ([], []), ([1], [1]), ([2], [2]), ([0, 3], [0, 3]), ([4], [4]), ([5], [5]), ([6, 5], [5, 6]), ([5], [5]), ([7, 8, 5], [5, 7, 8]), ([9, 5], [5, 9]), ([10, 5, 5], [5, 10]), ([5], [5]), ([12, 11, 5], [5, 12]), ([11, 13, 5], [5, 11, 13]), ([5, 14], [5, 14])])
def spec_l2PutNode.B2 : List Nat := [0, 0, 2, 6, 15, 31, 63, 127, 63, 511, 1023, 2047, 63, 8191, 16383, 32767]
theorem spec_l2PutNode.tab2 : rtab .any (opsOf Try.f109 2) = spec_l2PutNode.T2 := by kernel_rfl
theorem spec_l2PutNode.bits2 : waitsOk spec_l2PutNode.T2.2 spec_l2PutNode.B2 = true := by kernel_rfl
def spec_l2PutNode.T5 : Bool × List (List Nat × List Nat) := (true, [([], []), ([0], [0]), ([], []), ([1, 2], [1, 2]), ([], []), ([4], [4]), ([3, 5], [3, 5]), ([], []), ([6, 7, 6], [6, 7]), ([0, 1, 2, 3, 4, 5, 6, 7, 8], []), ([9, 8, 8, 0, 1, 2, 3, 4, 5, 6, 7, 8], [8, 9])])
def spec_l2PutNode.B5 : List Nat := [0, 1, 0, 7, 0, 16, 63, 0, 255, 511, 1023]
theorem spec_l2PutNode.tab5 : rtab .any (opsOf Try.f109 5) = spec_l2PutNode.T5 := by kernel_rfl
theorem spec_l2PutNode.bits5 : waitsOk spec_l2PutNode.T5.2 spec_l2PutNode.B5 = true := by kernel_rfl
theorem spec_l2PutNode.calls (k : Nat) (L : Nat → Prop) (bH : Value) (D : List (S36)) (O : Nat → Prop) (bI : Value) (aa : List (S56)) (T : Int) (X : Int) (r1 : List (S36)) (r2 : List (S56)) (w0 w : World) (hB : Below w0.heap.size w0 w) (cO : Kd.R k36 36 w w0.heap.size L bH D) (cP : Kd.R k56 56 w w0.heap.size O bI aa) (h : spec_l2PutNode.f k D aa T X = some (r1, r2)) :
  Calls Try.prog 109 #[.agg #[bH, bI], .agg #[.int .i64 T, .int .i64 X]] w fun e w' => ∃ b8 b9 : Value, e = .returned (.agg #[b8, b9]) ∧ Kd.R k36 36 w' w0.heap.size (fun k_ => ((L k_ ∨ O k_) ∨ w.heap.size ≤ k_)) b8 r1 ∧ Kd.R k56 56 w' w0.heap.size (fun k_ => ((L k_ ∨ O k_) ∨ w.heap.size ≤ k_)) b9 r2 ∧ Below w0.heap.size w0 w' ∧ Kept w w' (fun k_ => L k_ ∨ O k_) := by
 have hu34 := Try.underlying34
 have hu36 := Try.underlying36
 have ax := am (show Kd.R k36 36 w w0.heap.size (fun k_ => ((L k_ ∨ O k_) ∨ w.heap.size ≤ k_)) bH D from Kd.R_mono cO (fun k_ hk => (.inl (.inl hk))))
 have ay := am (show Kd.R k56 56 w w0.heap.size (fun k_ => ((L k_ ∨ O k_) ∨ w.heap.size ≤ k_)) bI aa from Kd.R_mono cP (fun k_ hk => (.inl (.inr hk))))
 have HK := am (Kept.refl w (fun k_ => L k_ ∨ O k_))
 have dC := am hB.size
 have HB := am hB
 clear hB
 have H := h; unfold spec_l2PutNode.f at H
 clear h
 have H' := am H
 clear H
 obtain ⟨ap, ab, cQ⟩ := Kd.R_slice ax.out
 subst cQ
 obtain ⟨an, ao, cR⟩ := Kd.R_slice ay.out
 subst cR
 go_enter Try.func109, Try.ntmps109
 go_wp2_with (first | ((with_reducible refine gd 2 rfl ?_); refine bx 2 (cs := #[.slice ap D.length ab, .slice an aa.length ao]) (t := 34) ?_; intro ac hg w5 hbox hb; replace ax := rb ax hb; replace ay := rb ay hb; have s := am hbox; have dD := Ge.mk ((by rw [hg]; exact (by first | exact HK.out.1 | exact (show Kept w _ (fun k_ => L k_ ∨ O k_) from ts HK.out).1) : w.heap.size ≤ ac)); replace HK := kl HK hb; have dE := gwb HB hg; replace HB := hs HB hb; clear hb hbox hg) | ((with_reducible refine gd 3 rfl ?_); refine bx 3 (cs := #[.int .i64 T, .int .i64 X]) (t := 36) ?_; intro Y hg w6 hbox hb; replace ax := am (Kd.R_below (Kd.R_elderB (rl ax.out) Y (Nat.le_of_eq hg.symm)) hb); replace ay := rb ay hb; have z := am hbox; have dF := Ge.mk ((by rw [hg]; exact (by first | exact HK.out.1 | exact (show Kept w _ (fun k_ => L k_ ∨ O k_) from ts HK.out).1) : w.heap.size ≤ Y)); replace HK := kl HK hb; have dG := gwb HB hg; replace HB := hs HB hb; have bm := nq s hg; have bn := nq' s hg; replace s := bb s hb rfl; clear hb hbox hg) | ((with_reducible refine gd 4 rfl ?_); refine bx 4 (cs := #[.slice none 0 0, .slice none 0 0]) (t := 34) ?_; intro aq hg w7 hbox hb; replace ax := rb ax hb; replace ay := rb ay hb; have I := am hbox; have dH := Ge.mk ((by rw [hg]; exact (by first | exact HK.out.1 | exact (show Kept w _ (fun k_ => L k_ ∨ O k_) from ts HK.out).1) : w.heap.size ≤ aq)); replace HK := kl HK hb; have dI := gwb HB hg; replace HB := hs HB hb; have bo := nq s hg; have br := nq' s hg; replace s := bb s hb rfl; have ce := nq z hg; have cf := nq' z hg; replace z := bb z hb rfl; clear hb hbox hg))
 go_loopg [5] k (fun kq v5 w' => ∃ (y : Int), v5 = .int .i64 y ∧ Aside0 (spec_l2PutNode.l0 kq y D aa T X = some (r1, r2)) ∧ Aside0 (kq ≤ k) ∧ Aside0 (Kd.R k36 36 w' w0.heap.size (fun k_ => ((L k_ ∨ O k_) ∨ w.heap.size ≤ k_) ∧ k_ ≠ Y) (.slice ap D.length ab) D) ∧ Aside0 (Kd.R k56 56 w' w0.heap.size (fun k_ => ((L k_ ∨ O k_) ∨ w.heap.size ≤ k_)) (.slice an aa.length ao) aa) ∧ Aside0 (w'.heap[ac]? = some (.cells #[(.slice ap D.length ab), (.slice an aa.length ao)] 34 (0, 0))) ∧ Aside0 (w'.heap[Y]? = some (.cells #[.int .i64 T, .int .i64 X] 36 (0, 0))) ∧ Aside0 (w'.heap[aq]? = some (.cells #[(.slice none 0 0), (.slice none 0 0)] 34 (0, 0))) ∧ Aside0 (Kept w w' (fun k_ => L k_ ∨ O k_)) ∧ Aside0 (Below w0.heap.size w0 w'))
 case atStart => exact ⟨(0), eqs, H', ⟨Nat.le_refl _⟩, ⟨rl ax.out⟩, ⟨rl ay.out⟩, ⟨bf s.out⟩, ⟨bf z.out⟩, ⟨bf I.out⟩, ⟨ts HK.out⟩, ⟨bs HB.out⟩⟩
 case round =>
  clear H'
  try clear c1
  try clear p2
  obtain ⟨y, rfl, HA, cg, J, Z, s, z, I, HK, HB⟩ := hrel
  cases gk with
  | zero => exact absurd HA.out (by simp [spec_l2PutNode.l0])
  | succ k1 =>
   have H := HA.out
   clear HA
   simp only [spec_l2PutNode.l0] at H
   by_cases c8 : y < (D.length : Int)
   ·rw [if_pos c8] at H
    have cS : decide (y < (D.length : Int)) = true := decide_eq_true c8
    clear c8
    by_cases c9 : 0 ≤ y
    ·rw [if_pos c9] at H
     have dJ : decide (0 ≤ y) = true := decide_eq_true c9
     clear c9
     replace H := Option.bind_eq_some_iff.mp H
     obtain ⟨a6, ch, H⟩ := H
     try dsimp -simprocs only at H
     have ci := am ch
     clear ch
     replace H := Option.bind_eq_some_iff.mp H
     obtain ⟨a7, cj, H⟩ := H
     try dsimp -simprocs only at H
     have ck := am cj
     clear cj
     by_cases aV : a6 < a7
     ·rw [if_pos aV] at H
      have cT : decide (a6 < a7) = true := decide_eq_true aV
      clear aV
      have H' := am H
      clear H
      try go_wp2
      replace J := rd_ J
      replace Z := rd_ Z
      replace s := bd s
      replace z := bd z
      replace I := bd I
      replace HK := am (Kept.drew HK.out)
      replace HB := hd HB
      have aC : 0 ≤ (y : Int) := oda
      have aD : y < (D.length : Int) := oda
      obtain ⟨ad, bJ, a8, a9⟩ := at_T36 (Kd.R_reads' J.out).2.2 y aC aD
      cases bJ
      replace aC := eq_true aC
      replace aD := eq_true aD
      refine sta 16 (fun w' => w'.cell? ⟨ac, 0, none⟩ = some (.slice (some ad) D.length ab) ∧ w'.cell? ⟨ac, 1, none⟩ = some (.slice an aa.length ao) ∧ w'.cell? ⟨Y, 0, none⟩ = some (.int .i64 T) ∧ w'.cell? ⟨Y, 1, none⟩ = some (.int .i64 X) ∧ w'.cell? (ad.add ((y).toNat * 2)) = some (.int .i64 ((rd_T36 D y).f0)) ∧ w'.cell? ⟨(ad.add ((y).toNat * 2)).block, (ad.add ((y).toNat * 2)).off + 1, none⟩ = some (.int .i64 ((rd_T36 D y).f1))) [] ⟨cx s 0, cx s 1, cx z 0, cx z 1, a8, a9⟩ (fun hHeld => ?_); refine with_tabW spec_l2PutNode.tab2 spec_l2PutNode.bits2 (fun HT_ HW_ => ?_)
      generalize wr.drew = dK at J Z s z I HK HB a8 a9 hHeld ⊢
      refine pu 0 7 ?_
      refine pu 1 8 ?_
      refine tk 2 9 ?_
      refine pu 3 10 ?_
      refine pu 4 11 ?_
      refine pu 5 12 ?_
      refine pu 6 13 ?_
      refine pu 8 15 ?_
      refine tk 7 14 ?_
      refine pu 9 16 ?_
      refine tk 10 17 ?_
      refine tk 12 19 ?_
      refine on 11 18 (fun K hK => ?_)
      refine gs Try.func76 #[.agg #[.int .i64 ((rd_T36 D y).f0), .int .i64 ((rd_T36 D y).f1)]] ?_
      with_reducible refine (spec_l2Code.calls ((rd_T36 D y).f0) ((rd_T36 D y).f1) a6 _ ci.out).mono ?_
      rintro e dL ⟨rfl, hb⟩
      have aE := cw hb hHeld.2.2.2.2.1
      have aG := cw hb hHeld.2.2.2.2.2
      refine ⟨_, rfl, ?_⟩
      replace J := rb J hb
      replace Z := rb Z hb
      replace s := bb s hb rfl
      replace z := bb z hb rfl
      replace I := bb I hb rfl
      replace HK := kl HK hb
      replace HB := hs HB hb
      (try clear hb)
      (try clear hb2)
      (try clear hk)
      (try clear hi)
      refine hK.out _ _ ⟨cx s 0, cx s 1, cx z 0, cx z 1, aE, aG⟩ (fun hHeld => ?_)
      clear hK K
      refine nrm 18 ?_
      refine on 13 20 (fun K hK => ?_)
      refine gs Try.func76 #[.agg #[.int .i64 T, .int .i64 X]] ?_
      with_reducible refine (spec_l2Code.calls T X a7 _ ck.out).mono ?_
      rintro e dM ⟨rfl, hb⟩
      have aE := cw hb hHeld.2.2.2.2.1
      have aG := cw hb hHeld.2.2.2.2.2
      refine ⟨_, rfl, ?_⟩
      replace J := rb J hb
      replace Z := rb Z hb
      replace s := bb s hb rfl
      replace z := bb z hb rfl
      replace I := bb I hb rfl
      replace HK := kl HK hb
      replace HB := hs HB hb
      (try clear hb)
      (try clear hb2)
      (try clear hk)
      (try clear hi)
      refine hK.out _ _ ⟨cx s 0, cx s 1, cx z 0, cx z 1, aE, aG⟩ (fun hHeld => ?_)
      clear hK K
      refine nrm 20 ?_
      refine pu 14 21 ?_
      refine pu 15 22 ?_
      refine dn ?_
      try go_wp2
      go_roundg k1
      case measure => have := cg.out; omega
      case rel => exact ⟨(wrap64 (y + 1)), eqs, H', ⟨by have := cg.out; omega⟩, ⟨rl J.out⟩, ⟨rl Z.out⟩, ⟨bf s.out⟩, ⟨bf z.out⟩, ⟨bf I.out⟩, ⟨ts HK.out⟩, ⟨bs HB.out⟩⟩
     ·rw [if_neg aV] at H
      have cT : decide (a6 < a7) = false := decide_eq_false aV
      clear aV
      obtain ⟨aH, bK⟩ : ∃ y_ : List (S36), y_ = (([] : List (S36))) := ⟨_, rfl⟩
      replace H : (if y ≤ (D.length : Int) then ((some (D.drop (y : Int).toNat : List (S36))).bind fun ak => (if aH.length + ak.length < 8796093022208 then ((some (aH ++ ak : List (S36))).bind fun ag => ((some (D.take (y : Int).toNat : List (S36))).bind fun ah => (if ah.length < 8796093022208 then ((some (ah ++ [(⟨T, X⟩ : S36)] : List (S36))).bind fun ae => (if ae.length + ag.length < 8796093022208 then (some ((ae ++ ag), aa)) else (none))) else (none)))) else (none))) else (none)) = some (r1, r2) := by first | (rw [bK]; exact H) | exact H
      have cl := am bK
      clear bK
      have dN := eq_true (oda : 0 ≤ y)
      by_cases ba : y ≤ (D.length : Int)
      ·rw [if_pos ba] at H
       have dO := eq_true ba
       have dP : decide (y ≤ (D.length : Int)) = true := decide_eq_true ba
       clear ba
       obtain ⟨ak, bL⟩ : ∃ y_ : List (S36), y_ = (D.drop (y : Int).toNat) := ⟨_, rfl⟩
       replace H : (if aH.length + ak.length < 8796093022208 then ((some (aH ++ ak : List (S36))).bind fun ag => ((some (D.take (y : Int).toNat : List (S36))).bind fun ah => (if ah.length < 8796093022208 then ((some (ah ++ [(⟨T, X⟩ : S36)] : List (S36))).bind fun ae => (if ae.length + ag.length < 8796093022208 then (some ((ae ++ ag), aa)) else (none))) else (none)))) else (none)) = some (r1, r2) := by first | (rw [bL]; exact H) | exact H
       have bM := am bL
       clear bL
       by_cases bt : aH.length + ak.length < 8796093022208
       ·rw [if_pos bt] at H
        have cU := am bt
        clear bt
        obtain ⟨ag, bN⟩ : ∃ y_ : List (S36), y_ = (aH ++ ak) := ⟨_, rfl⟩
        replace H : ((some (D.take (y : Int).toNat : List (S36))).bind fun ah => (if ah.length < 8796093022208 then ((some (ah ++ [(⟨T, X⟩ : S36)] : List (S36))).bind fun ae => (if ae.length + ag.length < 8796093022208 then (some ((ae ++ ag), aa)) else (none))) else (none))) = some (r1, r2) := by first | (rw [bN]; exact H) | exact H
        have cV := am bN
        clear bN
        have dQ := eq_true (oda : y ≤ (D.length : Int))
        obtain ⟨ah, bO⟩ : ∃ y_ : List (S36), y_ = (D.take (y : Int).toNat) := ⟨_, rfl⟩
        replace H : (if ah.length < 8796093022208 then ((some (ah ++ [(⟨T, X⟩ : S36)] : List (S36))).bind fun ae => (if ae.length + ag.length < 8796093022208 then (some ((ae ++ ag), aa)) else (none))) else (none)) = some (r1, r2) := by first | (rw [bO]; exact H) | exact H
        have cm := am bO
        clear bO
        by_cases bu : ah.length < 8796093022208
        ·rw [if_pos bu] at H
         have cW := am bu
         clear bu
         obtain ⟨ae, bP⟩ : ∃ y_ : List (S36), y_ = (ah ++ [(⟨T, X⟩ : S36)]) := ⟨_, rfl⟩
         replace H : (if ae.length + ag.length < 8796093022208 then (some ((ae ++ ag), aa)) else (none)) = some (r1, r2) := by first | (rw [bP]; exact H) | exact H
         have cX := am bP
         clear bP
         by_cases bv : ae.length + ag.length < 8796093022208
         ·rw [if_pos bv] at H
          have cY := am bv
          clear bv
          obtain ⟨aW, bQ⟩ : ∃ y_ : List (S36), y_ = (ae ++ ag) := ⟨_, rfl⟩
          replace H : (some (aW, aa)) = some (r1, r2) := by first | (rw [bQ]; exact H) | exact H
          have cZ := am bQ
          clear bQ
          simp only [Option.some.injEq, Prod.mk.injEq] at H
          obtain ⟨rfl, rfl⟩ := H
          try go_wp2
          replace J := rd_ J
          replace Z := rd_ Z
          replace s := bd s
          replace z := bd z
          replace I := bd I
          replace HK := am (Kept.drew HK.out)
          replace HB := hd HB
          have aC : 0 ≤ (y : Int) := oda
          have aD : y < (D.length : Int) := oda
          obtain ⟨ad, bJ, a8, a9⟩ := at_T36 (Kd.R_reads' J.out).2.2 y aC aD
          cases bJ
          replace aC := eq_true aC
          replace aD := eq_true aD
          refine sta 16 (fun w' => w'.cell? ⟨ac, 0, none⟩ = some (.slice (some ad) D.length ab) ∧ w'.cell? ⟨ac, 1, none⟩ = some (.slice an aa.length ao) ∧ w'.cell? ⟨Y, 0, none⟩ = some (.int .i64 T) ∧ w'.cell? ⟨Y, 1, none⟩ = some (.int .i64 X) ∧ w'.cell? (ad.add ((y).toNat * 2)) = some (.int .i64 ((rd_T36 D y).f0)) ∧ w'.cell? ⟨(ad.add ((y).toNat * 2)).block, (ad.add ((y).toNat * 2)).off + 1, none⟩ = some (.int .i64 ((rd_T36 D y).f1))) [] ⟨cx s 0, cx s 1, cx z 0, cx z 1, a8, a9⟩ (fun hHeld => ?_); refine with_tabW spec_l2PutNode.tab2 spec_l2PutNode.bits2 (fun HT_ HW_ => ?_)
          generalize wr.drew = dR at J Z s z I HK HB a8 a9 hHeld ⊢
          refine pu 0 7 ?_
          refine pu 1 8 ?_
          refine tk 2 9 ?_
          refine pu 3 10 ?_
          refine pu 4 11 ?_
          refine pu 5 12 ?_
          refine pu 6 13 ?_
          refine pu 8 15 ?_
          refine tk 7 14 ?_
          refine pu 9 16 ?_
          refine tk 10 17 ?_
          refine tk 12 19 ?_
          refine on 11 18 (fun K hK => ?_)
          refine gs Try.func76 #[.agg #[.int .i64 ((rd_T36 D y).f0), .int .i64 ((rd_T36 D y).f1)]] ?_
          with_reducible refine (spec_l2Code.calls ((rd_T36 D y).f0) ((rd_T36 D y).f1) a6 _ ci.out).mono ?_
          rintro e dS ⟨rfl, hb⟩
          have aE := cw hb hHeld.2.2.2.2.1
          have aG := cw hb hHeld.2.2.2.2.2
          refine ⟨_, rfl, ?_⟩
          replace J := rb J hb
          replace Z := rb Z hb
          replace s := bb s hb rfl
          replace z := bb z hb rfl
          replace I := bb I hb rfl
          replace HK := kl HK hb
          replace HB := hs HB hb
          (try clear hb)
          (try clear hb2)
          (try clear hk)
          (try clear hi)
          refine hK.out _ _ ⟨cx s 0, cx s 1, cx z 0, cx z 1, aE, aG⟩ (fun hHeld => ?_)
          clear hK K
          refine nrm 18 ?_
          refine on 13 20 (fun K hK => ?_)
          refine gs Try.func76 #[.agg #[.int .i64 T, .int .i64 X]] ?_
          with_reducible refine (spec_l2Code.calls T X a7 _ ck.out).mono ?_
          rintro e dT ⟨rfl, hb⟩
          have aE := cw hb hHeld.2.2.2.2.1
          have aG := cw hb hHeld.2.2.2.2.2
          refine ⟨_, rfl, ?_⟩
          replace J := rb J hb
          replace Z := rb Z hb
          replace s := bb s hb rfl
          replace z := bb z hb rfl
          replace I := bb I hb rfl
          replace HK := kl HK hb
          replace HB := hs HB hb
          (try clear hb)
          (try clear hb2)
          (try clear hk)
          (try clear hi)
          refine hK.out _ _ ⟨cx s 0, cx s 1, cx z 0, cx z 1, aE, aG⟩ (fun hHeld => ?_)
          clear hK K
          refine nrm 20 ?_
          refine pu 14 21 ?_
          refine pu 15 22 ?_
          refine dn ?_
          try go_wp2_with (first | ((with_reducible refine gd 25 rfl ?_); refine Kd.R_lit k36 _ 36 ?hg (N := 25) ?hd (xs := ([] : List (S36))) (inner := []) (ok := fun _ => True) (okp := fun _ => True) ?hr ?hp (fun _ hk => hk) trivial (Below.refl _ _) (Nat.le_refl _) (by simp) ?_; (case hd => rfl); (case hg => rfl); (case hr => first | (go_simp; done) | (go_simp; rfl)); (case hp => exact (Reps.none _ _)); intro c0 c2 aX hb hg_ hnew_; clear hg_ hnew_; (first | rw [← cl.out] at aX | (simp only [Int.reduceToNat] at aX; rw [← cl.out] at aX)); replace Z := rb Z hb; have aI := am (Kd.R_lower (Kd.R_newB (Kd.R_new' (Kd.R_newM (M := fun k_ => ((L k_ ∨ O k_) ∨ w.heap.size ≤ k_)) aX (by first | exact HK.out.1 | exact (show Kept w _ (fun k_ => L k_ ∨ O k_) from ts HK.out).1) (fun k_ h_ => .inr h_)) (rk J)) (g := Y) (o := .cells #[.int .i64 T, .int .i64 X] 36 (0, 0)) (bf z.out)) (below_size (bs HB.out))); replace J := re J aX hb; replace s := bb s hb rfl; replace z := bb z hb rfl; replace I := bb I hb rfl; replace HK := kl HK hb; replace HB := hs HB hb; clear hb aX; have dU := bm.out; have dV := bn.out; have dW := bo.out; have dX := br.out; obtain ⟨dY, dZ⟩ := bc2 (w := c2) s.out; have d0 := blk_frozen s.out; have bR : (y : Int) ≤ ((D.length : Int) : Int) := oda; obtain ⟨d1, cn, _, co, _⟩ := info_parts info36; have bS : D.length ≤ ab := (Kd.R_reads' J.out).2.1; have cp : Kd.C k36 _ (some ad) D.length D := (Kd.R_reads' J.out).2.2; have c3 : (0 : Int) ≤ (y : Int) := oda; have c4 := cut_from (P := Try.prog) 29 36 .i64 Try.underlying29 cn 2 co (some ad) D.length ab y c3 bR; have bc := Kd.C_drop (m := (y : Int).toNat) (c := ab) cp (by omega) bS; obtain ⟨ct, bw⟩ : ∃ A1, A1 = (if ab = (y : Int).toNat then (some ad) else ((some ad) : Option Addr).map (·.add ((y : Int).toNat * 2))) := ⟨_, rfl⟩; obtain ⟨c5, bT⟩ : ∃ c1, c1 = ab - (y : Int).toNat := ⟨_, rfl⟩; have bz : ak.length = D.length - (y : Int).toNat := (by rw [bM.out, List.length_drop] <;> omega); rw [show (D).drop (y : Int).toNat = ak from bM.out.symm] at bc; replace bc : Kd.C k36 _ ct ak.length ak := (by rw [bw]; exact bc); rw [← bz, ← bw, ← bT] at c4; have aY := am bc; have d2 := am (show ak.length ≤ c5 from by rw [bz, bT]; exact Nat.sub_le_sub_right bS _); clear bc cp bS cn co bT; have d3 := am bz; have c6 := am bw; clear bz bw; have c7 := am (show (y : Int).toNat ≤ D.length from by omega); replace bR := eq_true bR) | ((with_reducible refine gate_builtin (b := .append) (xs := #[.tmp 25, .tmp 29]) rfl ?_); at_builtin; refine Kd.R_append_rows k36 (w0 := w0) w0.heap.size rfl (.tmp 25) (.tmp 29) 29 36 (.agg #[(.int .i64 0), (.int .i64 0)]) 16 rfl Try.underlying29 info36 rfl (by decide) (by omega) c0 aH ak _ _ _ (fun k_ => ((L k_ ∨ O k_) ∨ w.heap.size ≤ k_) ∧ some k_ ≠ (.slice (some ad) D.length ab : Value).ownBlock ∧ k_ ≠ Y) (fun _ => False) rfl rfl ?aO ?aR (fun _ _ h => h) (fun _ h => h.elim) ?aF ?aB ?aS ?aL ?_; (case aR => repeat (first | exact (by repeat (first | (with_reducible exact aY.out) | (with_reducible refine Kd.C_alloc ?_ _) | (with_reducible refine Kd.C_drewN ?_ _) | (with_reducible refine Kd.C_drew ?_) | exact aY.out)) | (with_reducible refine Kd.C_alloc ?_ _) | (with_reducible refine Kd.C_drewN ?_ _) | (with_reducible refine Kd.C_drew ?_))); (case aB => exact (bs HB.out)); (case aF => exact (fun k_ hk => ⟨(.inr (Nat.le_trans (by first | exact HK.out.1 | exact (show Kept w _ (fun k_ => L k_ ∨ O k_) from ts HK.out).1) hk)), Kd.fresh' (rk J) k_ hk, Kd.freshB (g := Y) (o := .cells #[.int .i64 T, .int .i64 X] 36 (0, 0)) (bf z.out) k_ hk⟩)); (case aO => exact (by (with_reducible repeat (first | apply Kd.R_alloc | apply Kd.R_drewN | apply Kd.R_drew)); exact Kd.R_mono aI.out (fun _ hk => ⟨hk.1.1.1, ⟨hk.1.2, hk.2⟩⟩))); (case aS => exact (below_size (bs HB.out))); (case aL => have := cU.out; omega); intro da cu ho hb hg hat; rw [← cV.out] at ho; replace Z := am (Kd.R_over' (rl Z.out) (Kd.R_typed (rl aI.out)) (by decide) hg); replace s := gr s aI hg; replace z := am (blk_grown (g := Y) (o := .cells #[.int .i64 T, .int .i64 X] 36 (0, 0)) (bf z.out) hg (Kd.R_away aI.out (fun _ hk => hk.2))); replace I := gr I aI hg; replace HB := am hb; replace HK := am (Kept.of_grown (S := (fun k_ => L k_ ∨ O k_)) hg (ts HK.out) (fun k_ e_ => (aI.out.1 k_ e_).1.1.1)); replace aY := am ((show Kd.C k36 cu ct ak.length ak from by rw [bM.out, c6.out]; exact Kd.C_drop (m := (y : Int).toNat) (c := ab) ((Kd.R_reads' (Kd.R_after (ok := (fun k_ => ((L k_ ∨ O k_) ∨ w.heap.size ≤ k_) ∧ k_ ≠ Y)) (rl J.out) hg hat)).2.2) c7.out ((Kd.R_reads' (Kd.R_after (ok := (fun k_ => ((L k_ ∨ O k_) ∨ w.heap.size ≤ k_) ∧ k_ ≠ Y)) (rl J.out) hg hat)).2.1))); replace J := am (Kd.R_after (ok := (fun k_ => ((L k_ ∨ O k_) ∨ w.heap.size ≤ k_) ∧ k_ ≠ Y)) (rl J.out) hg hat); have ar := am ho; clear aI; clear ho hb hg hat))
          replace J := rd_ J
          replace Z := rd_ Z
          replace ar := rd_ ar
          replace s := bd s
          replace z := bd z
          replace I := bd I
          replace aY := am (Kd.C_drew aY.out)
          replace HK := am (Kept.drew HK.out)
          replace HB := hd HB
          have bU : (y : Int) ≤ ((D.length : Int) : Int) := oda
          obtain ⟨d4, cv, _, db, _⟩ := info_parts info36
          have dc := cut_to (P := Try.prog) 29 36 .i64 Try.underlying29 cv (some ad) D.length ab y (oda) bU (Kd.R_reads' J.out).2.1
          have bA := Kd.R_take (m := (y : Int).toNat) J.out (by omega)
          have cy : ah.length = (y : Int).toNat := (by rw [cm.out, List.length_take]; omega)
          rw [← cm.out] at bA
          rw [← cy] at bA dc
          clear cy cv db J
          have az := am bA
          clear bA
          replace bU := eq_true bU
          refine sta 11 (fun w' => w'.cell? ⟨ac, 0, none⟩ = some (.slice (some ad) D.length ab) ∧ w'.cell? ⟨ac, 1, none⟩ = some (.slice an aa.length ao) ∧ w'.cell? ⟨Y, 0, none⟩ = some (.int .i64 T) ∧ w'.cell? ⟨Y, 1, none⟩ = some (.int .i64 X)) [10] ⟨cx s 0, cx s 1, cx z 0, cx z 1⟩ (fun hHeld => ?_); refine with_tabW spec_l2PutNode.tab5 spec_l2PutNode.bits5 (fun HT_ HW_ => ?_)
          generalize cu.drew = d5 at Z ar s z I aY HK HB az hHeld ⊢
          refine pu 0 31 ?_
          refine pu 2 33 ?_
          refine pu 7 38 ?_
          refine tk 1 32 ?_
          refine pu 3 34 ?_
          refine tk 4 35 ?_
          refine on 5 36 (fun K hK => ?_)
          refine va ?_
          refine hK.out _ _ ⟨cx s 0, cx s 1, cx z 0, cx z 1⟩ (fun hHeld => ?_)
          clear hK K
          refine nrm 36 ?_
          refine on 6 37 (fun K hK => ?_)
          refine Kd.R_append_step k36 (w0 := w0) w0.heap.size (by rfl) (.tmp 34) (.tmp 36) 29 36 (.agg #[(.int .i64 0), (.int .i64 0)]) 16 rfl Try.underlying29 info36 rfl (by decide) (by omega) (.slice (some ad) ah.length ab) ah (⟨T, X⟩ : S36) [.int .i64 T, .int .i64 X] (fun k_ => ((L k_ ∨ O k_) ∨ w.heap.size ≤ k_) ∧ some k_ ≠ (da : Value).ownBlock ∧ k_ ≠ Y) (fun _ => False) rfl rfl ?aP (fun _ hk => hk.elim) ?aF ?aO ?aB ?aS ?aL ?_
          (case aP => exact k36_mkM _ _ _ (⟨T, X⟩ : S36))
          (case aB => exact (bs HB.out))
          (case aF => exact (fun k_ hk => ⟨(.inr (Nat.le_trans (by first | exact HK.out.1 | exact (show Kept w _ (fun k_ => L k_ ∨ O k_) from ts HK.out).1) hk)), Kd.fresh' (rk ar) k_ hk, Kd.freshB (g := Y) (o := .cells #[.int .i64 T, .int .i64 X] 36 (0, 0)) (bf z.out) k_ hk⟩))
          (case aO => exact (by (with_reducible repeat (first | apply Kd.R_alloc | apply Kd.R_drewN | apply Kd.R_drew)); exact Kd.R_mono az.out (fun _ hk => ⟨hk.1.1, ⟨hk.2, hk.1.2⟩⟩)))
          (case aS => exact (below_size (bs HB.out)))
          (case aL => have := cW.out; omega)
          intro dd d6 ho hb hg hat
          rw [← cX.out] at ho
          replace Z := am (Kd.R_over' (rl Z.out) (Kd.R_typed (rl az.out)) (by decide) hg)
          replace s := gr s az hg
          replace z := am (blk_grown (g := Y) (o := .cells #[.int .i64 T, .int .i64 X] 36 (0, 0)) (bf z.out) hg (Kd.R_away az.out (fun _ hk => hk.1.2)))
          replace I := gr I az hg
          replace ar := am (Kd.R_after (ok := (fun k_ => ((L k_ ∨ O k_) ∨ w.heap.size ≤ k_) ∧ k_ ≠ Y)) (by (with_reducible repeat (first | apply Kd.R_alloc | apply Kd.R_drewN | apply Kd.R_drew)); exact Kd.R_mono ar.out (fun _ hk => ⟨⟨hk.1, hk.2.2⟩, fun e_ => hk.2.1 (e_.trans ob)⟩)) hg hat)
          replace HB := am hb
          replace HK := am (Kept.of_grown (S := (fun k_ => L k_ ∨ O k_)) hg (ts HK.out) (fun k_ e_ => (az.out.1 k_ e_).1.1))
          have aJ := am ho
          clear az
          clear ho hb hg hat
          obtain ⟨de, df, cz⟩ := Kd.R_slice ar.out
          (first | subst cz | (injection cz with au aK av; have aM := au.symm; have aN := av.symm; clear au aK av; subst aM; subst aN))
          refine hK.out _ _ ⟨cx s 0, cx s 1, cx z 0, cx z 1⟩ (fun hHeld => ?_)
          clear hK K
          refine nrm 37 ?_
          refine on 8 39 (fun K hK => ?_)
          refine Kd.R_append_rows_step k36 (w0 := w0) w0.heap.size (by rfl) (.tmp 37) (.tmp 38) 29 36 (.agg #[(.int .i64 0), (.int .i64 0)]) 16 rfl Try.underlying29 info36 rfl (by decide) (by omega) dd ae ag _ _ _ (fun k_ => ((L k_ ∨ O k_) ∨ w.heap.size ≤ k_) ∧ some k_ ≠ (.slice de ag.length df : Value).ownBlock ∧ k_ ≠ Y) (fun _ => False) rfl rfl ?aO ?aR (fun _ _ h => h) (fun _ h => h.elim) ?aF ?aB ?aS ?aL ?_
          (case aR => exact cr ar)
          (case aB => exact (bs HB.out))
          (case aF => exact (fun k_ hk => ⟨(.inr (Nat.le_trans (by first | exact HK.out.1 | exact (show Kept w _ (fun k_ => L k_ ∨ O k_) from ts HK.out).1) hk)), Kd.fresh' (rk ar) k_ hk, Kd.freshB (g := Y) (o := .cells #[.int .i64 T, .int .i64 X] 36 (0, 0)) (bf z.out) k_ hk⟩))
          (case aO => exact (rl aJ.out))
          (case aS => exact (below_size (bs HB.out)))
          (case aL => have := cY.out; omega)
          intro d7 bV ho hb hg hat
          rw [← cZ.out] at ho
          replace Z := am (Kd.R_over' (rl Z.out) (Kd.R_typed (rl aJ.out)) (by decide) hg)
          replace s := gr s aJ hg
          replace z := am (blk_grown (g := Y) (o := .cells #[.int .i64 T, .int .i64 X] 36 (0, 0)) (bf z.out) hg (Kd.R_away aJ.out (fun _ hk => hk.2.2)))
          replace I := gr I aJ hg
          replace ar := am (Kd.R_after (ok := (fun k_ => ((L k_ ∨ O k_) ∨ w.heap.size ≤ k_) ∧ k_ ≠ Y)) (rl ar.out) hg hat)
          replace HB := am hb
          replace HK := am (Kept.of_grown (S := (fun k_ => L k_ ∨ O k_)) hg (ts HK.out) (fun k_ e_ => (aJ.out.1 k_ e_).1))
          have cA := am ho
          clear aJ
          clear ho hb hg hat
          obtain ⟨be, bg, cB⟩ := Kd.R_slice cA.out
          (first | subst cB | (injection cB with au aK av; have aM := au.symm; have aN := av.symm; clear au aK av; subst aM; subst aN))
          refine hK.out _ _ ⟨cx s 0, cx s 1, cx z 0, cx z 1⟩ (fun hHeld => ?_)
          clear hK K
          refine nrm 39 ?_
          refine pu 9 40 ?_
          refine la0 10 (fun K hK => ?_)
          have d8 : bV.cell? ⟨ac, 0, none⟩ = some (.slice (some ad) D.length ab) := cx s 0
          have d9 := blk_frozen s.out 0
          have ea := bn.out
          have eb := br.out
          have ec := bm.out
          have ed := bo.out
          refine sk ?_
          refine hK.out _ _ ?_
          clear hK K
          refine dn ?_
          obtain ⟨ee, ef⟩ := bc2 (w := bV) s.out
          have eg := blk_frozen s.out
          have eh := cf.out
          have ei := ce.out
          obtain ⟨ej, ek⟩ := bc2 (w := bV) I.out
          have el := blk_frozen I.out
          try go_wp2
          refine bodyPost_ret (results_cell_row rfl _ _ aq 34 #[.slice be aW.length bg, .slice an aa.length ao] (0, 0) _ rfl (bp I.out rfl) Try.underlying34 rfl (by kernel_rfl)) rfl ?_
          exact ⟨_, _, eqr, by (with_reducible repeat (first | apply Kd.R_alloc | apply Kd.R_drewN | apply Kd.R_drew)); exact Kd.R_mono (Kd.R_far (p := ⟨aq, 1, none⟩) (Kd.R_far (p := ⟨aq, 0, none⟩) (Kd.R_far (p := ⟨ac, 0, none⟩) (Kd.R_types (Kd.R_types cA.out s.out (by decide)) I.out (by decide)) (fun _ hk => hk.1.2) (.slice be aW.length bg)) (fun _ hk => hk.2) (.slice be aW.length bg)) (fun _ hk => hk.2) (.slice an aa.length ao)) (fun _ hk => hk.1.1.1), by (with_reducible repeat (first | apply Kd.R_alloc | apply Kd.R_drewN | apply Kd.R_drew)); exact Kd.R_mono (Kd.R_far (p := ⟨aq, 1, none⟩) (Kd.R_far (p := ⟨aq, 0, none⟩) (Kd.R_far (p := ⟨ac, 0, none⟩) (Kd.R_types (Kd.R_types Z.out s.out (by decide)) I.out (by decide)) (fun _ hk => hk.1.2) (.slice be aW.length bg)) (fun _ hk => hk.2) (.slice be aW.length bg)) (fun _ hk => hk.2) (.slice an aa.length ao)) (fun _ hk => hk.1.1), bs HB.out, ts HK.out⟩
         ·rw [if_neg bv] at H
          exact absurd H (by simp)
        ·rw [if_neg bu] at H
         exact absurd H (by simp)
       ·rw [if_neg bt] at H
        exact absurd H (by simp)
      ·rw [if_neg ba] at H
       exact absurd H (by simp)
    ·rw [if_neg c9] at H
     exact absurd H (by simp)
   ·rw [if_neg c8] at H
    have cS : decide (y < (D.length : Int)) = false := decide_eq_false c8
    clear c8
    obtain ⟨aQ, bW⟩ : ∃ y_ : List (S36), y_ = (([] : List (S36))) := ⟨_, rfl⟩
    replace H : (if 0 ≤ y then (if y ≤ (D.length : Int) then ((some (D.drop (y : Int).toNat : List (S36))).bind fun al => (if aQ.length + al.length < 8796093022208 then ((some (aQ ++ al : List (S36))).bind fun ai => ((some (D.take (y : Int).toNat : List (S36))).bind fun aj => (if aj.length < 8796093022208 then ((some (aj ++ [(⟨T, X⟩ : S36)] : List (S36))).bind fun af => (if af.length + ai.length < 8796093022208 then (some ((af ++ ai), aa)) else (none))) else (none)))) else (none))) else (none)) else (none)) = some (r1, r2) := by first | (rw [bW]; exact H) | exact H
    have cC := am bW
    clear bW
    by_cases bh : 0 ≤ y
    ·rw [if_pos bh] at H
     have em := eq_true bh
     have en : decide (0 ≤ y) = true := decide_eq_true bh
     clear bh
     by_cases bi : y ≤ (D.length : Int)
     ·rw [if_pos bi] at H
      have eo := eq_true bi
      have ep : decide (y ≤ (D.length : Int)) = true := decide_eq_true bi
      clear bi
      obtain ⟨al, bX⟩ : ∃ y_ : List (S36), y_ = (D.drop (y : Int).toNat) := ⟨_, rfl⟩
      replace H : (if aQ.length + al.length < 8796093022208 then ((some (aQ ++ al : List (S36))).bind fun ai => ((some (D.take (y : Int).toNat : List (S36))).bind fun aj => (if aj.length < 8796093022208 then ((some (aj ++ [(⟨T, X⟩ : S36)] : List (S36))).bind fun af => (if af.length + ai.length < 8796093022208 then (some ((af ++ ai), aa)) else (none))) else (none)))) else (none)) = some (r1, r2) := by first | (rw [bX]; exact H) | exact H
      have bY := am bX
      clear bX
      by_cases bB : aQ.length + al.length < 8796093022208
      ·rw [if_pos bB] at H
       have dg := am bB
       clear bB
       obtain ⟨ai, bZ⟩ : ∃ y_ : List (S36), y_ = (aQ ++ al) := ⟨_, rfl⟩
       replace H : ((some (D.take (y : Int).toNat : List (S36))).bind fun aj => (if aj.length < 8796093022208 then ((some (aj ++ [(⟨T, X⟩ : S36)] : List (S36))).bind fun af => (if af.length + ai.length < 8796093022208 then (some ((af ++ ai), aa)) else (none))) else (none))) = some (r1, r2) := by first | (rw [bZ]; exact H) | exact H
       have dh := am bZ
       clear bZ
       have eq := eq_true (oda : y ≤ (D.length : Int))
       obtain ⟨aj, b0⟩ : ∃ y_ : List (S36), y_ = (D.take (y : Int).toNat) := ⟨_, rfl⟩
       replace H : (if aj.length < 8796093022208 then ((some (aj ++ [(⟨T, X⟩ : S36)] : List (S36))).bind fun af => (if af.length + ai.length < 8796093022208 then (some ((af ++ ai), aa)) else (none))) else (none)) = some (r1, r2) := by first | (rw [b0]; exact H) | exact H
       have cD := am b0
       clear b0
       by_cases bC : aj.length < 8796093022208
       ·rw [if_pos bC] at H
        have di := am bC
        clear bC
        obtain ⟨af, b1⟩ : ∃ y_ : List (S36), y_ = (aj ++ [(⟨T, X⟩ : S36)]) := ⟨_, rfl⟩
        replace H : (if af.length + ai.length < 8796093022208 then (some ((af ++ ai), aa)) else (none)) = some (r1, r2) := by first | (rw [b1]; exact H) | exact H
        have dj := am b1
        clear b1
        by_cases bD : af.length + ai.length < 8796093022208
        ·rw [if_pos bD] at H
         have dk := am bD
         clear bD
         obtain ⟨aZ, b2⟩ : ∃ y_ : List (S36), y_ = (af ++ ai) := ⟨_, rfl⟩
         replace H : (some (aZ, aa)) = some (r1, r2) := by first | (rw [b2]; exact H) | exact H
         have dl := am b2
         clear b2
         simp only [Option.some.injEq, Prod.mk.injEq] at H
         obtain ⟨rfl, rfl⟩ := H
         try go_wp2
         replace J := rd_ J
         replace Z := rd_ Z
         replace s := bd s
         replace z := bd z
         replace I := bd I
         replace HK := am (Kept.drew HK.out)
         replace HB := hd HB
         refine sta 16 (fun w' => w'.cell? ⟨ac, 0, none⟩ = some (.slice ap D.length ab) ∧ w'.cell? ⟨ac, 1, none⟩ = some (.slice an aa.length ao)) [] ⟨cx s 0, cx s 1⟩ (fun hHeld => ?_); refine with_tabW spec_l2PutNode.tab2 spec_l2PutNode.bits2 (fun HT_ HW_ => ?_)
         generalize wr.drew = er at J Z s z I HK HB hHeld ⊢
         refine pu 0 7 ?_
         refine pu 1 8 ?_
         refine tk 2 9 ?_
         refine pu 3 10 ?_
         refine pu 4 11 ?_
         refine pu 5 12 ?_
         refine ud 6 13 ?_
         refine ud 7 14 ?_
         refine ud 8 15 ?_
         refine ud 9 16 ?_
         refine ud 10 17 ?_
         refine ud 11 18 ?_
         refine ud 12 19 ?_
         refine ud 13 20 ?_
         refine ud 14 21 ?_
         refine pu 15 22 ?_
         refine dn ?_
         try go_wp2_with (first | ((with_reducible refine gd 25 rfl ?_); refine Kd.R_lit k36 _ 36 ?hg (N := 25) ?hd (xs := ([] : List (S36))) (inner := []) (ok := fun _ => True) (okp := fun _ => True) ?hr ?hp (fun _ hk => hk) trivial (Below.refl _ _) (Nat.le_refl _) (by simp) ?_; (case hd => rfl); (case hg => rfl); (case hr => first | (go_simp; done) | (go_simp; rfl)); (case hp => exact (Reps.none _ _)); intro dm dp a4 hb hg_ hnew_; clear hg_ hnew_; (first | rw [← cC.out] at a4 | (simp only [Int.reduceToNat] at a4; rw [← cC.out] at a4)); replace Z := rb Z hb; have aT := am (Kd.R_lower (Kd.R_newB (Kd.R_new' (Kd.R_newM (M := fun k_ => ((L k_ ∨ O k_) ∨ w.heap.size ≤ k_)) a4 (by first | exact HK.out.1 | exact (show Kept w _ (fun k_ => L k_ ∨ O k_) from ts HK.out).1) (fun k_ h_ => .inr h_)) (rk J)) (g := Y) (o := .cells #[.int .i64 T, .int .i64 X] 36 (0, 0)) (bf z.out)) (below_size (bs HB.out))); replace J := re J a4 hb; replace s := bb s hb rfl; replace z := bb z hb rfl; replace I := bb I hb rfl; replace HK := kl HK hb; replace HB := hs HB hb; clear hb a4; have es := bm.out; have et := bn.out; have eu := bo.out; have ev := br.out; obtain ⟨ew, ex⟩ := bc2 (w := dp) s.out; have ey := blk_frozen s.out; have b3 : (y : Int) ≤ ((D.length : Int) : Int) := oda; obtain ⟨ez, cE, _, cF, _⟩ := info_parts info36; have b4 : D.length ≤ ab := (Kd.R_reads' J.out).2.1; have cG : Kd.C k36 _ ap D.length D := (Kd.R_reads' J.out).2.2; have dq : (0 : Int) ≤ (y : Int) := oda; have dr := cut_from (P := Try.prog) 29 36 .i64 Try.underlying29 cE 2 cF ap D.length ab y dq b3; have bj := Kd.C_drop (m := (y : Int).toNat) (c := ab) cG (by omega) b4; obtain ⟨cH, bE⟩ : ∃ A1, A1 = (if ab = (y : Int).toNat then ap else (ap : Option Addr).map (·.add ((y : Int).toNat * 2))) := ⟨_, rfl⟩; obtain ⟨dt, b5⟩ : ∃ c1, c1 = ab - (y : Int).toNat := ⟨_, rfl⟩; have bF : al.length = D.length - (y : Int).toNat := (by rw [bY.out, List.length_drop] <;> omega); rw [show (D).drop (y : Int).toNat = al from bY.out.symm] at bj; replace bj : Kd.C k36 _ cH al.length al := (by rw [bE]; exact bj); rw [← bF, ← bE, ← b5] at dr; have a5 := am bj; have eA := am (show al.length ≤ dt from by rw [bF, b5]; exact Nat.sub_le_sub_right b4 _); clear bj cG b4 cE cF b5; have eB := am bF; have du := am bE; clear bF bE; have dv := am (show (y : Int).toNat ≤ D.length from by omega); replace b3 := eq_true b3) | ((with_reducible refine gate_builtin (b := .append) (xs := #[.tmp 25, .tmp 29]) rfl ?_); at_builtin; refine Kd.R_append_rows k36 (w0 := w0) w0.heap.size rfl (.tmp 25) (.tmp 29) 29 36 (.agg #[(.int .i64 0), (.int .i64 0)]) 16 rfl Try.underlying29 info36 rfl (by decide) (by omega) dm aQ al _ _ _ (fun k_ => ((L k_ ∨ O k_) ∨ w.heap.size ≤ k_) ∧ some k_ ≠ (.slice ap D.length ab : Value).ownBlock ∧ k_ ≠ Y) (fun _ => False) rfl rfl ?aO ?aR (fun _ _ h => h) (fun _ h => h.elim) ?aF ?aB ?aS ?aL ?_; (case aR => repeat (first | exact (by repeat (first | (with_reducible exact a5.out) | (with_reducible refine Kd.C_alloc ?_ _) | (with_reducible refine Kd.C_drewN ?_ _) | (with_reducible refine Kd.C_drew ?_) | exact a5.out)) | (with_reducible refine Kd.C_alloc ?_ _) | (with_reducible refine Kd.C_drewN ?_ _) | (with_reducible refine Kd.C_drew ?_))); (case aB => exact (bs HB.out)); (case aF => exact (fun k_ hk => ⟨(.inr (Nat.le_trans (by first | exact HK.out.1 | exact (show Kept w _ (fun k_ => L k_ ∨ O k_) from ts HK.out).1) hk)), Kd.fresh' (rk J) k_ hk, Kd.freshB (g := Y) (o := .cells #[.int .i64 T, .int .i64 X] 36 (0, 0)) (bf z.out) k_ hk⟩)); (case aO => exact (by (with_reducible repeat (first | apply Kd.R_alloc | apply Kd.R_drewN | apply Kd.R_drew)); exact Kd.R_mono aT.out (fun _ hk => ⟨hk.1.1.1, ⟨hk.1.2, hk.2⟩⟩))); (case aS => exact (below_size (bs HB.out))); (case aL => have := dg.out; omega); intro dw cI ho hb hg hat; rw [← dh.out] at ho; replace Z := am (Kd.R_over' (rl Z.out) (Kd.R_typed (rl aT.out)) (by decide) hg); replace s := gr s aT hg; replace z := am (blk_grown (g := Y) (o := .cells #[.int .i64 T, .int .i64 X] 36 (0, 0)) (bf z.out) hg (Kd.R_away aT.out (fun _ hk => hk.2))); replace I := gr I aT hg; replace HB := am hb; replace HK := am (Kept.of_grown (S := (fun k_ => L k_ ∨ O k_)) hg (ts HK.out) (fun k_ e_ => (aT.out.1 k_ e_).1.1.1)); replace a5 := am ((show Kd.C k36 cI cH al.length al from by rw [bY.out, du.out]; exact Kd.C_drop (m := (y : Int).toNat) (c := ab) ((Kd.R_reads' (Kd.R_after (ok := (fun k_ => ((L k_ ∨ O k_) ∨ w.heap.size ≤ k_) ∧ k_ ≠ Y)) (rl J.out) hg hat)).2.2) dv.out ((Kd.R_reads' (Kd.R_after (ok := (fun k_ => ((L k_ ∨ O k_) ∨ w.heap.size ≤ k_) ∧ k_ ≠ Y)) (rl J.out) hg hat)).2.1))); replace J := am (Kd.R_after (ok := (fun k_ => ((L k_ ∨ O k_) ∨ w.heap.size ≤ k_) ∧ k_ ≠ Y)) (rl J.out) hg hat); have aw := am ho; clear aT; clear ho hb hg hat))
         replace J := rd_ J
         replace Z := rd_ Z
         replace aw := rd_ aw
         replace s := bd s
         replace z := bd z
         replace I := bd I
         replace a5 := am (Kd.C_drew a5.out)
         replace HK := am (Kept.drew HK.out)
         replace HB := hd HB
         have b6 : (y : Int) ≤ ((D.length : Int) : Int) := oda
         obtain ⟨eC, cJ, _, dx, _⟩ := info_parts info36
         have dy := cut_to (P := Try.prog) 29 36 .i64 Try.underlying29 cJ ap D.length ab y (oda) b6 (Kd.R_reads' J.out).2.1
         have bG := Kd.R_take (m := (y : Int).toNat) J.out (by omega)
         have cK : aj.length = (y : Int).toNat := (by rw [cD.out, List.length_take]; omega)
         rw [← cD.out] at bG
         rw [← cK] at bG dy
         clear cK cJ dx J
         have aA := am bG
         clear bG
         replace b6 := eq_true b6
         refine sta 11 (fun w' => w'.cell? ⟨ac, 0, none⟩ = some (.slice ap D.length ab) ∧ w'.cell? ⟨ac, 1, none⟩ = some (.slice an aa.length ao) ∧ w'.cell? ⟨Y, 0, none⟩ = some (.int .i64 T) ∧ w'.cell? ⟨Y, 1, none⟩ = some (.int .i64 X)) [10] ⟨cx s 0, cx s 1, cx z 0, cx z 1⟩ (fun hHeld => ?_); refine with_tabW spec_l2PutNode.tab5 spec_l2PutNode.bits5 (fun HT_ HW_ => ?_)
         generalize cI.drew = eD at Z aw s z I a5 HK HB aA hHeld ⊢
         refine pu 0 31 ?_
         refine pu 2 33 ?_
         refine pu 7 38 ?_
         refine tk 1 32 ?_
         refine pu 3 34 ?_
         refine tk 4 35 ?_
         refine on 5 36 (fun K hK => ?_)
         refine va ?_
         refine hK.out _ _ ⟨cx s 0, cx s 1, cx z 0, cx z 1⟩ (fun hHeld => ?_)
         clear hK K
         refine nrm 36 ?_
         refine on 6 37 (fun K hK => ?_)
         refine Kd.R_append_step k36 (w0 := w0) w0.heap.size (by rfl) (.tmp 34) (.tmp 36) 29 36 (.agg #[(.int .i64 0), (.int .i64 0)]) 16 rfl Try.underlying29 info36 rfl (by decide) (by omega) (.slice ap aj.length ab) aj (⟨T, X⟩ : S36) [.int .i64 T, .int .i64 X] (fun k_ => ((L k_ ∨ O k_) ∨ w.heap.size ≤ k_) ∧ some k_ ≠ (dw : Value).ownBlock ∧ k_ ≠ Y) (fun _ => False) rfl rfl ?aP (fun _ hk => hk.elim) ?aF ?aO ?aB ?aS ?aL ?_
         (case aP => exact k36_mkM _ _ _ (⟨T, X⟩ : S36))
         (case aB => exact (bs HB.out))
         (case aF => exact (fun k_ hk => ⟨(.inr (Nat.le_trans (by first | exact HK.out.1 | exact (show Kept w _ (fun k_ => L k_ ∨ O k_) from ts HK.out).1) hk)), Kd.fresh' (rk aw) k_ hk, Kd.freshB (g := Y) (o := .cells #[.int .i64 T, .int .i64 X] 36 (0, 0)) (bf z.out) k_ hk⟩))
         (case aO => exact (by (with_reducible repeat (first | apply Kd.R_alloc | apply Kd.R_drewN | apply Kd.R_drew)); exact Kd.R_mono aA.out (fun _ hk => ⟨hk.1.1, ⟨hk.2, hk.1.2⟩⟩)))
         (case aS => exact (below_size (bs HB.out)))
         (case aL => have := di.out; omega)
         intro dz eE ho hb hg hat
         rw [← dj.out] at ho
         replace Z := am (Kd.R_over' (rl Z.out) (Kd.R_typed (rl aA.out)) (by decide) hg)
         replace s := gr s aA hg
         replace z := am (blk_grown (g := Y) (o := .cells #[.int .i64 T, .int .i64 X] 36 (0, 0)) (bf z.out) hg (Kd.R_away aA.out (fun _ hk => hk.1.2)))
         replace I := gr I aA hg
         replace aw := am (Kd.R_after (ok := (fun k_ => ((L k_ ∨ O k_) ∨ w.heap.size ≤ k_) ∧ k_ ≠ Y)) (by (with_reducible repeat (first | apply Kd.R_alloc | apply Kd.R_drewN | apply Kd.R_drew)); exact Kd.R_mono aw.out (fun _ hk => ⟨⟨hk.1, hk.2.2⟩, fun e_ => hk.2.1 (e_.trans ob)⟩)) hg hat)
         replace HB := am hb
         replace HK := am (Kept.of_grown (S := (fun k_ => L k_ ∨ O k_)) hg (ts HK.out) (fun k_ e_ => (aA.out.1 k_ e_).1.1))
         have aU := am ho
         clear aA
         clear ho hb hg hat
         obtain ⟨dA, dB, cL⟩ := Kd.R_slice aw.out
         (first | subst cL | (injection cL with au aK av; have aM := au.symm; have aN := av.symm; clear au aK av; subst aM; subst aN))
         refine hK.out _ _ ⟨cx s 0, cx s 1, cx z 0, cx z 1⟩ (fun hHeld => ?_)
         clear hK K
         refine nrm 37 ?_
         refine on 8 39 (fun K hK => ?_)
         refine Kd.R_append_rows_step k36 (w0 := w0) w0.heap.size (by rfl) (.tmp 37) (.tmp 38) 29 36 (.agg #[(.int .i64 0), (.int .i64 0)]) 16 rfl Try.underlying29 info36 rfl (by decide) (by omega) dz af ai _ _ _ (fun k_ => ((L k_ ∨ O k_) ∨ w.heap.size ≤ k_) ∧ some k_ ≠ (.slice dA ai.length dB : Value).ownBlock ∧ k_ ≠ Y) (fun _ => False) rfl rfl ?aO ?aR (fun _ _ h => h) (fun _ h => h.elim) ?aF ?aB ?aS ?aL ?_
         (case aR => exact cr aw)
         (case aB => exact (bs HB.out))
         (case aF => exact (fun k_ hk => ⟨(.inr (Nat.le_trans (by first | exact HK.out.1 | exact (show Kept w _ (fun k_ => L k_ ∨ O k_) from ts HK.out).1) hk)), Kd.fresh' (rk aw) k_ hk, Kd.freshB (g := Y) (o := .cells #[.int .i64 T, .int .i64 X] 36 (0, 0)) (bf z.out) k_ hk⟩))
         (case aO => exact (rl aU.out))
         (case aS => exact (below_size (bs HB.out)))
         (case aL => have := dk.out; omega)
         intro eF b7 ho hb hg hat
         rw [← dl.out] at ho
         replace Z := am (Kd.R_over' (rl Z.out) (Kd.R_typed (rl aU.out)) (by decide) hg)
         replace s := gr s aU hg
         replace z := am (blk_grown (g := Y) (o := .cells #[.int .i64 T, .int .i64 X] 36 (0, 0)) (bf z.out) hg (Kd.R_away aU.out (fun _ hk => hk.2.2)))
         replace I := gr I aU hg
         replace aw := am (Kd.R_after (ok := (fun k_ => ((L k_ ∨ O k_) ∨ w.heap.size ≤ k_) ∧ k_ ≠ Y)) (rl aw.out) hg hat)
         replace HB := am hb
         replace HK := am (Kept.of_grown (S := (fun k_ => L k_ ∨ O k_)) hg (ts HK.out) (fun k_ e_ => (aU.out.1 k_ e_).1))
         have cM := am ho
         clear aU
         clear ho hb hg hat
         obtain ⟨bk, bl, cN⟩ := Kd.R_slice cM.out
         (first | subst cN | (injection cN with au aK av; have aM := au.symm; have aN := av.symm; clear au aK av; subst aM; subst aN))
         refine hK.out _ _ ⟨cx s 0, cx s 1, cx z 0, cx z 1⟩ (fun hHeld => ?_)
         clear hK K
         refine nrm 39 ?_
         refine pu 9 40 ?_
         refine la0 10 (fun K hK => ?_)
         have eG : b7.cell? ⟨ac, 0, none⟩ = some (.slice ap D.length ab) := cx s 0
         have eH := blk_frozen s.out 0
         have eI := bn.out
         have eJ := br.out
         have eK := bm.out
         have eL := bo.out
         refine sk ?_
         refine hK.out _ _ ?_
         clear hK K
         refine dn ?_
         obtain ⟨eM, eN⟩ := bc2 (w := b7) s.out
         have eO := blk_frozen s.out
         have eP := cf.out
         have eQ := ce.out
         obtain ⟨eR, eS⟩ := bc2 (w := b7) I.out
         have eT := blk_frozen I.out
         try go_wp2
         refine bodyPost_ret (results_cell_row rfl _ _ aq 34 #[.slice bk aZ.length bl, .slice an aa.length ao] (0, 0) _ rfl (bp I.out rfl) Try.underlying34 rfl (by kernel_rfl)) rfl ?_
         exact ⟨_, _, eqr, by (with_reducible repeat (first | apply Kd.R_alloc | apply Kd.R_drewN | apply Kd.R_drew)); exact Kd.R_mono (Kd.R_far (p := ⟨aq, 1, none⟩) (Kd.R_far (p := ⟨aq, 0, none⟩) (Kd.R_far (p := ⟨ac, 0, none⟩) (Kd.R_types (Kd.R_types cM.out s.out (by decide)) I.out (by decide)) (fun _ hk => hk.1.2) (.slice bk aZ.length bl)) (fun _ hk => hk.2) (.slice bk aZ.length bl)) (fun _ hk => hk.2) (.slice an aa.length ao)) (fun _ hk => hk.1.1.1), by (with_reducible repeat (first | apply Kd.R_alloc | apply Kd.R_drewN | apply Kd.R_drew)); exact Kd.R_mono (Kd.R_far (p := ⟨aq, 1, none⟩) (Kd.R_far (p := ⟨aq, 0, none⟩) (Kd.R_far (p := ⟨ac, 0, none⟩) (Kd.R_types (Kd.R_types Z.out s.out (by decide)) I.out (by decide)) (fun _ hk => hk.1.2) (.slice bk aZ.length bl)) (fun _ hk => hk.2) (.slice bk aZ.length bl)) (fun _ hk => hk.2) (.slice an aa.length ao)) (fun _ hk => hk.1.1), bs HB.out, ts HK.out⟩
        ·rw [if_neg bD] at H
         exact absurd H (by simp)
       ·rw [if_neg bC] at H
        exact absurd H (by simp)
      ·rw [if_neg bB] at H
       exact absurd H (by simp)
     ·rw [if_neg bi] at H
      exact absurd H (by simp)
    ·rw [if_neg bh] at H
     exact absurd H (by simp)

end Go.Proofs.Ytohmemckdogljaa.QFnExactWalkPath
