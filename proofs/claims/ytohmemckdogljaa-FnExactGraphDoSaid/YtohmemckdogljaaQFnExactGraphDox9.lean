/- Contracts of the Go functions that this law reaches: each does what its plain Lean function says. No condition. -/
import Derived.Test.YtohmemckdogljaaQFnExactGraphDox0
import Derived.Test.YtohmemckdogljaaQFnExactGraphDox2
import Derived.Test.YtohmemckdogljaaQFnExactGraphDox5
namespace Go.Proofs.Ytohmemckdogljaa.QFnExactGraphDo
open Go.RowKit Go.Proofs.YtohmemckdogljaaW.PrintWords Go.Proofs.YtohmemckdogljaaW.PrintLast Go.Proofs.YtohmemckdogljaaW.PrintMore Go.Proofs.Ytohmemckdogljaa.Bl
attribute [local go_sem] max2_int min2_int max_two min_two max_three min_three max_four min_four   -- for this text's walks alone
set_option linter.unusedVariables false
set_option linter.unusedSimpArgs false
set_option maxHeartbeats 8000000
set_option maxRecDepth 100000

attribute [local go_sem high] eqA56
/-! ### spec_l2PutNode: function 109 -/
def spec_l2PutNode.l0 : Nat → Int → List (S36) → List (S56) → Int → Int → Option ((List (S36)) × (List (S56)))
 | 0, _, _, _, _, _ => none
 | k + 1, s, y, G, z, D => if s < (y.length : Int) then (if 0 ≤ s then ((spec_l2Code.f ((rd_T36 y s).f0) ((rd_T36 y s).f1)).bind fun ac => ((spec_l2Code.f z D).bind fun ad => (if ac < ad then (spec_l2PutNode.l0 k (wrap64 (s + 1)) y G z D) else ((some (([] : List (S36)) : List (S36))).bind fun I => (if s ≤ (y.length : Int) then ((some (y.drop (s : Int).toNat : List (S36))).bind fun J => (if I.length + J.length < 8796093022208 then ((some (I ++ J : List (S36))).bind fun L => ((some (y.take (s : Int).toNat : List (S36))).bind fun O => (if O.length < 8796093022208 then ((some (O ++ [(⟨z, D⟩ : S36)] : List (S36))).bind fun T => (if T.length + L.length < 8796093022208 then (some ((T ++ L), G)) else (none))) else (none)))) else (none))) else (none)))))) else (none)) else ((some (([] : List (S36)) : List (S36))).bind fun X => (if 0 ≤ s then (if s ≤ (y.length : Int) then ((some (y.drop (s : Int).toNat : List (S36))).bind fun Y => (if X.length + Y.length < 8796093022208 then ((some (X ++ Y : List (S36))).bind fun Z => ((some (y.take (s : Int).toNat : List (S36))).bind fun aa => (if aa.length < 8796093022208 then ((some (aa ++ [(⟨z, D⟩ : S36)] : List (S36))).bind fun ab => (if ab.length + Z.length < 8796093022208 then (some ((ab ++ Z), G)) else (none))) else (none)))) else (none))) else (none)) else (none)))
def spec_l2PutNode.f (k : Nat) (s : List (S36)) (y : List (S56)) (z : Int) (D : Int) : Option ((List (S36)) × (List (S56))) := spec_l2PutNode.l0 k 0 s y z D
def spec_l2PutNode.T2 : Bool × List (List Nat × List Nat) := (true, [([], []), ([], []), ([1], [1]), ([2], [2]), ([0, 3], [0, 3]), ([4], [4]), ([5], [5]), ([6, 5], [5, 6]), ([5], [5]), ([7, 8, 5], [5, 7, 8]), ([9, 5], [5, 9]), ([10, 5, 5], [5, 10]), ([5], [5]), ([12, 11, 5], [5, 12]), ([11, 13, 5], [5, 11, 13]), ([5, 14], [5, 14])])
def spec_l2PutNode.B2 : List Nat := [0, 0, 2, 6, 15, 31, 63, 127, 63, 511, 1023, 2047, 63, 8191, 16383, 32767]
theorem spec_l2PutNode.tab2 : rtab .any (opsOf Try.f109 2) = spec_l2PutNode.T2 := by kernel_rfl
theorem spec_l2PutNode.bits2 : waitsOk spec_l2PutNode.T2.2 spec_l2PutNode.B2 = true := by kernel_rfl
def spec_l2PutNode.T5 : Bool × List (List Nat × List Nat) := (true, [([], []), ([0], [0]), ([], []), ([1, 2], [1, 2]), ([], []), ([4], [4]), ([3, 5], [3, 5]), ([], []), ([6, 7, 6], [6, 7]), ([0, 1, 2, 3, 4, 5, 6, 7, 8], []), ([9, 8, 8, 0, 1, 2, 3, 4, 5, 6, 7, 8], [8, 9])])
def spec_l2PutNode.B5 : List Nat := [0, 1, 0, 7, 0, 16, 63, 0, 255, 511, 1023]
theorem spec_l2PutNode.tab5 : rtab .any (opsOf Try.f109 5) = spec_l2PutNode.T5 := by kernel_rfl
theorem spec_l2PutNode.bits5 : waitsOk spec_l2PutNode.T5.2 spec_l2PutNode.B5 = true := by kernel_rfl
theorem spec_l2PutNode.calls (k : Nat) (L : Nat → Prop) (bK : Value) (D : List (S36)) (O : Nat → Prop) (bL : Value) (aa : List (S56)) (T : Int) (X : Int) (r1 : List (S36)) (r2 : List (S56)) (w0 w : World) (hB : Below w0.heap.size w0 w) (cR : Kd.R k36 36 w w0.heap.size L bK D) (cS : Kd.R k56 56 w w0.heap.size O bL aa) (h : spec_l2PutNode.f k D aa T X = some (r1, r2)) :
  Calls Try.prog 109 #[.agg #[bK, bL], .agg #[.int .i64 T, .int .i64 X]] w fun e w' => ∃ cf cg : Value, e = .returned (.agg #[cf, cg]) ∧ Kd.R k36 36 w' w0.heap.size (fun k_ => ((L k_ ∨ O k_) ∨ w.heap.size ≤ k_)) cf r1 ∧ Kd.R k56 56 w' w0.heap.size (fun k_ => ((L k_ ∨ O k_) ∨ w.heap.size ≤ k_)) cg r2 ∧ Below w0.heap.size w0 w' ∧ Kept w w' (fun k_ => L k_ ∨ O k_) := by
 have hu34 := Try.underlying34
 have hu36 := Try.underlying36
 have ax := am (show Kd.R k36 36 w w0.heap.size (fun k_ => ((L k_ ∨ O k_) ∨ w.heap.size ≤ k_)) bK D from Kd.R_mono cR (fun k_ hk => (.inl (.inl hk))))
 have ay := am (show Kd.R k56 56 w w0.heap.size (fun k_ => ((L k_ ∨ O k_) ∨ w.heap.size ≤ k_)) bL aa from Kd.R_mono cS (fun k_ hk => (.inl (.inr hk))))
 have HK := am (Kept.refl w (fun k_ => L k_ ∨ O k_))
 have dI := am hB.size
 have HB := am hB
 clear hB
 have H := h; unfold spec_l2PutNode.f at H
 clear h
 have H' := am H
 clear H
 obtain ⟨ap, ab, cT⟩ := Kd.R_slice ax.out
 subst cT
 obtain ⟨an, ao, cU⟩ := Kd.R_slice ay.out
 subst cU
 go_enter Try.func109, Try.ntmps109
 go_wp2_with (first | ((with_reducible refine gd 2 rfl ?_); refine bx 2 (cs := #[.slice ap D.length ab, .slice an aa.length ao]) (t := 34) ?_; intro ac hg w5 hbox hb; replace ax := rb ax hb; replace ay := rb ay hb; have s := am hbox; have dJ := Ge.mk ((by rw [hg]; exact (by first | exact HK.out.1 | exact (show Kept w _ (fun k_ => L k_ ∨ O k_) from ts HK.out).1) : w.heap.size ≤ ac)); replace HK := kl HK hb; have dK := gwb HB hg; replace HB := hs HB hb; clear hb hbox hg) | ((with_reducible refine gd 3 rfl ?_); refine bx 3 (cs := #[.int .i64 T, .int .i64 X]) (t := 36) ?_; intro Y hg w6 hbox hb; replace ax := am (Kd.R_below (Kd.R_elderB (rl ax.out) Y (Nat.le_of_eq hg.symm)) hb); replace ay := rb ay hb; have z := am hbox; have dL := Ge.mk ((by rw [hg]; exact (by first | exact HK.out.1 | exact (show Kept w _ (fun k_ => L k_ ∨ O k_) from ts HK.out).1) : w.heap.size ≤ Y)); replace HK := kl HK hb; have dM := gwb HB hg; replace HB := hs HB hb; have br := nq s hg; have bt := nq' s hg; replace s := bb s hb rfl; clear hb hbox hg) | ((with_reducible refine gd 4 rfl ?_); refine bx 4 (cs := #[.slice none 0 0, .slice none 0 0]) (t := 34) ?_; intro aq hg w7 hbox hb; replace ax := rb ax hb; replace ay := rb ay hb; have I := am hbox; have dN := Ge.mk ((by rw [hg]; exact (by first | exact HK.out.1 | exact (show Kept w _ (fun k_ => L k_ ∨ O k_) from ts HK.out).1) : w.heap.size ≤ aq)); replace HK := kl HK hb; have dO := gwb HB hg; replace HB := hs HB hb; have bu := nq s hg; have bv := nq' s hg; replace s := bb s hb rfl; have ch := nq z hg; have ci := nq' z hg; replace z := bb z hb rfl; clear hb hbox hg))
 go_loopg [5] k (fun kq v5 w' => ∃ (y : Int), v5 = .int .i64 y ∧ Aside0 (spec_l2PutNode.l0 kq y D aa T X = some (r1, r2)) ∧ Aside0 (kq ≤ k) ∧ Aside0 (Kd.R k36 36 w' w0.heap.size (fun k_ => ((L k_ ∨ O k_) ∨ w.heap.size ≤ k_) ∧ k_ ≠ Y) (.slice ap D.length ab) D) ∧ Aside0 (Kd.R k56 56 w' w0.heap.size (fun k_ => ((L k_ ∨ O k_) ∨ w.heap.size ≤ k_)) (.slice an aa.length ao) aa) ∧ Aside0 (w'.heap[ac]? = some (.cells #[(.slice ap D.length ab), (.slice an aa.length ao)] 34 (0, 0))) ∧ Aside0 (w'.heap[Y]? = some (.cells #[.int .i64 T, .int .i64 X] 36 (0, 0))) ∧ Aside0 (w'.heap[aq]? = some (.cells #[(.slice none 0 0), (.slice none 0 0)] 34 (0, 0))) ∧ Aside0 (Kept w w' (fun k_ => L k_ ∨ O k_)) ∧ Aside0 (Below w0.heap.size w0 w'))
 case atStart => exact ⟨(0), eqs, H', ⟨Nat.le_refl _⟩, ⟨rl ax.out⟩, ⟨rl ay.out⟩, ⟨bf s.out⟩, ⟨bf z.out⟩, ⟨bf I.out⟩, ⟨ts HK.out⟩, ⟨bs HB.out⟩⟩
 case round =>
  clear H'
  try clear c1
  try clear p2
  obtain ⟨y, rfl, HA, cj, J, Z, s, z, I, HK, HB⟩ := hrel
  cases gk with
  | zero => exact absurd HA.out (by simp [spec_l2PutNode.l0])
  | succ k1 =>
   have H := HA.out
   clear HA
   simp only [spec_l2PutNode.l0] at H
   by_cases c8 : y < (D.length : Int)
   ·rw [if_pos c8] at H
    have cV : decide (y < (D.length : Int)) = true := decide_eq_true c8
    clear c8
    by_cases c9 : 0 ≤ y
    ·rw [if_pos c9] at H
     have dP : decide (0 ≤ y) = true := decide_eq_true c9
     clear c9
     replace H := Option.bind_eq_some_iff.mp H
     obtain ⟨a9, ck, H⟩ := H
     try dsimp -simprocs only at H
     have cl := am ck
     clear ck
     replace H := Option.bind_eq_some_iff.mp H
     obtain ⟨ba, cm, H⟩ := H
     try dsimp -simprocs only at H
     have cn := am cm
     clear cm
     by_cases aV : a9 < ba
     ·rw [if_pos aV] at H
      have cW : decide (a9 < ba) = true := decide_eq_true aV
      clear aV
      have H' := am H
      clear H
      try go_wp2
      replace J := rd_ J
      replace Z := rd_ Z
      replace s := bd s
      replace z := bd z
      replace I := bd I
      replace HK := am (Kept.drew HK.out)
      replace HB := hd HB
      have aC : 0 ≤ (y : Int) := oda
      have aD : y < (D.length : Int) := oda
      obtain ⟨ad, bM, bc, be⟩ := at_T36 (Kd.R_reads' J.out).2.2 y aC aD
      cases bM
      replace aC := eq_true aC
      replace aD := eq_true aD
      refine sta 16 (fun w' => w'.cell? ⟨ac, 0, none⟩ = some (.slice (some ad) D.length ab) ∧ w'.cell? ⟨ac, 1, none⟩ = some (.slice an aa.length ao) ∧ w'.cell? ⟨Y, 0, none⟩ = some (.int .i64 T) ∧ w'.cell? ⟨Y, 1, none⟩ = some (.int .i64 X) ∧ w'.cell? (ad.add ((y).toNat * 2)) = some (.int .i64 ((rd_T36 D y).f0)) ∧ w'.cell? ⟨(ad.add ((y).toNat * 2)).block, (ad.add ((y).toNat * 2)).off + 1, none⟩ = some (.int .i64 ((rd_T36 D y).f1))) [] ⟨cx s 0, cx s 1, cx z 0, cx z 1, bc, be⟩ (fun hHeld => ?_); refine with_tabW spec_l2PutNode.tab2 spec_l2PutNode.bits2 (fun HT_ HW_ => ?_)
      generalize wr.drew = dQ at J Z s z I HK HB bc be hHeld ⊢
      refine pu 0 7 ?_
      refine pu 1 8 ?_
      refine tk 2 9 ?_
      refine pu 3 10 ?_
      refine pu 4 11 ?_
      refine pu 5 12 ?_
      refine pu 6 13 ?_
      refine pu 8 15 ?_
      refine tk 7 14 ?_
      refine pu 9 16 ?_
      refine tk 10 17 ?_
      refine tk 12 19 ?_
      refine on 11 18 (fun K hK => ?_)
      refine gs Try.func76 #[.agg #[.int .i64 ((rd_T36 D y).f0), .int .i64 ((rd_T36 D y).f1)]] ?_
      with_reducible refine (spec_l2Code.calls ((rd_T36 D y).f0) ((rd_T36 D y).f1) a9 _ cl.out).mono ?_
      rintro e dR ⟨rfl, hb⟩
      have aE := cw hb hHeld.2.2.2.2.1
      have aG := cw hb hHeld.2.2.2.2.2
      refine ⟨_, rfl, ?_⟩
      replace J := rb J hb
      replace Z := rb Z hb
      replace s := bb s hb rfl
      replace z := bb z hb rfl
      replace I := bb I hb rfl
      replace HK := kl HK hb
      replace HB := hs HB hb
      (try clear hb)
      (try clear hb2)
      (try clear hk)
      (try clear hi)
      refine hK.out _ _ ⟨cx s 0, cx s 1, cx z 0, cx z 1, aE, aG⟩ (fun hHeld => ?_)
      clear hK K
      refine nrm 18 ?_
      refine on 13 20 (fun K hK => ?_)
      refine gs Try.func76 #[.agg #[.int .i64 T, .int .i64 X]] ?_
      with_reducible refine (spec_l2Code.calls T X ba _ cn.out).mono ?_
      rintro e dS ⟨rfl, hb⟩
      have aE := cw hb hHeld.2.2.2.2.1
      have aG := cw hb hHeld.2.2.2.2.2
      refine ⟨_, rfl, ?_⟩
      replace J := rb J hb
      replace Z := rb Z hb
      replace s := bb s hb rfl
      replace z := bb z hb rfl
      replace I := bb I hb rfl
      replace HK := kl HK hb
      replace HB := hs HB hb
      (try clear hb)
      (try clear hb2)
      (try clear hk)
      (try clear hi)
      refine hK.out _ _ ⟨cx s 0, cx s 1, cx z 0, cx z 1, aE, aG⟩ (fun hHeld => ?_)
      clear hK K
      refine nrm 20 ?_
      refine pu 14 21 ?_
      refine pu 15 22 ?_
      refine dn ?_
      try go_wp2
      go_roundg k1
      case measure => have := cj.out; omega
      case rel => exact ⟨(wrap64 (y + 1)), eqs, H', ⟨by have := cj.out; omega⟩, ⟨rl J.out⟩, ⟨rl Z.out⟩, ⟨bf s.out⟩, ⟨bf z.out⟩, ⟨bf I.out⟩, ⟨ts HK.out⟩, ⟨bs HB.out⟩⟩
     ·rw [if_neg aV] at H
      have cW : decide (a9 < ba) = false := decide_eq_false aV
      clear aV
      obtain ⟨aH, bN⟩ : ∃ y_ : List (S36), y_ = (([] : List (S36))) := ⟨_, rfl⟩
      replace H : (if y ≤ (D.length : Int) then ((some (D.drop (y : Int).toNat : List (S36))).bind fun ak => (if aH.length + ak.length < 8796093022208 then ((some (aH ++ ak : List (S36))).bind fun ag => ((some (D.take (y : Int).toNat : List (S36))).bind fun ah => (if ah.length < 8796093022208 then ((some (ah ++ [(⟨T, X⟩ : S36)] : List (S36))).bind fun ae => (if ae.length + ag.length < 8796093022208 then (some ((ae ++ ag), aa)) else (none))) else (none)))) else (none))) else (none)) = some (r1, r2) := by first | (rw [bN]; exact H) | exact H
      have co := am bN
      clear bN
      have dT := eq_true (oda : 0 ≤ y)
      by_cases bg : y ≤ (D.length : Int)
      ·rw [if_pos bg] at H
       have dU := eq_true bg
       have dV : decide (y ≤ (D.length : Int)) = true := decide_eq_true bg
       clear bg
       obtain ⟨ak, bO⟩ : ∃ y_ : List (S36), y_ = (D.drop (y : Int).toNat) := ⟨_, rfl⟩
       replace H : (if aH.length + ak.length < 8796093022208 then ((some (aH ++ ak : List (S36))).bind fun ag => ((some (D.take (y : Int).toNat : List (S36))).bind fun ah => (if ah.length < 8796093022208 then ((some (ah ++ [(⟨T, X⟩ : S36)] : List (S36))).bind fun ae => (if ae.length + ag.length < 8796093022208 then (some ((ae ++ ag), aa)) else (none))) else (none)))) else (none)) = some (r1, r2) := by first | (rw [bO]; exact H) | exact H
       have bP := am bO
       clear bO
       by_cases bw : aH.length + ak.length < 8796093022208
       ·rw [if_pos bw] at H
        have cX := am bw
        clear bw
        obtain ⟨ag, bQ⟩ : ∃ y_ : List (S36), y_ = (aH ++ ak) := ⟨_, rfl⟩
        replace H : ((some (D.take (y : Int).toNat : List (S36))).bind fun ah => (if ah.length < 8796093022208 then ((some (ah ++ [(⟨T, X⟩ : S36)] : List (S36))).bind fun ae => (if ae.length + ag.length < 8796093022208 then (some ((ae ++ ag), aa)) else (none))) else (none))) = some (r1, r2) := by first | (rw [bQ]; exact H) | exact H
        have cY := am bQ
        clear bQ
        have dW := eq_true (oda : y ≤ (D.length : Int))
        obtain ⟨ah, bR⟩ : ∃ y_ : List (S36), y_ = (D.take (y : Int).toNat) := ⟨_, rfl⟩
        replace H : (if ah.length < 8796093022208 then ((some (ah ++ [(⟨T, X⟩ : S36)] : List (S36))).bind fun ae => (if ae.length + ag.length < 8796093022208 then (some ((ae ++ ag), aa)) else (none))) else (none)) = some (r1, r2) := by first | (rw [bR]; exact H) | exact H
        have cp := am bR
        clear bR
        by_cases bz : ah.length < 8796093022208
        ·rw [if_pos bz] at H
         have cZ := am bz
         clear bz
         obtain ⟨ae, bS⟩ : ∃ y_ : List (S36), y_ = (ah ++ [(⟨T, X⟩ : S36)]) := ⟨_, rfl⟩
         replace H : (if ae.length + ag.length < 8796093022208 then (some ((ae ++ ag), aa)) else (none)) = some (r1, r2) := by first | (rw [bS]; exact H) | exact H
         have c0 := am bS
         clear bS
         by_cases bA : ae.length + ag.length < 8796093022208
         ·rw [if_pos bA] at H
          have c2 := am bA
          clear bA
          obtain ⟨aW, bT⟩ : ∃ y_ : List (S36), y_ = (ae ++ ag) := ⟨_, rfl⟩
          replace H : (some (aW, aa)) = some (r1, r2) := by first | (rw [bT]; exact H) | exact H
          have c3 := am bT
          clear bT
          simp only [Option.some.injEq, Prod.mk.injEq] at H
          obtain ⟨rfl, rfl⟩ := H
          try go_wp2
          replace J := rd_ J
          replace Z := rd_ Z
          replace s := bd s
          replace z := bd z
          replace I := bd I
          replace HK := am (Kept.drew HK.out)
          replace HB := hd HB
          have aC : 0 ≤ (y : Int) := oda
          have aD : y < (D.length : Int) := oda
          obtain ⟨ad, bM, bc, be⟩ := at_T36 (Kd.R_reads' J.out).2.2 y aC aD
          cases bM
          replace aC := eq_true aC
          replace aD := eq_true aD
          refine sta 16 (fun w' => w'.cell? ⟨ac, 0, none⟩ = some (.slice (some ad) D.length ab) ∧ w'.cell? ⟨ac, 1, none⟩ = some (.slice an aa.length ao) ∧ w'.cell? ⟨Y, 0, none⟩ = some (.int .i64 T) ∧ w'.cell? ⟨Y, 1, none⟩ = some (.int .i64 X) ∧ w'.cell? (ad.add ((y).toNat * 2)) = some (.int .i64 ((rd_T36 D y).f0)) ∧ w'.cell? ⟨(ad.add ((y).toNat * 2)).block, (ad.add ((y).toNat * 2)).off + 1, none⟩ = some (.int .i64 ((rd_T36 D y).f1))) [] ⟨cx s 0, cx s 1, cx z 0, cx z 1, bc, be⟩ (fun hHeld => ?_); refine with_tabW spec_l2PutNode.tab2 spec_l2PutNode.bits2 (fun HT_ HW_ => ?_)
          generalize wr.drew = dX at J Z s z I HK HB bc be hHeld ⊢
          refine pu 0 7 ?_
          refine pu 1 8 ?_
          refine tk 2 9 ?_
          refine pu 3 10 ?_
          refine pu 4 11 ?_
          refine pu 5 12 ?_
          refine pu 6 13 ?_
          refine pu 8 15 ?_
          refine tk 7 14 ?_
          refine pu 9 16 ?_
          refine tk 10 17 ?_
          refine tk 12 19 ?_
          refine on 11 18 (fun K hK => ?_)
          refine gs Try.func76 #[.agg #[.int .i64 ((rd_T36 D y).f0), .int .i64 ((rd_T36 D y).f1)]] ?_
          with_reducible refine (spec_l2Code.calls ((rd_T36 D y).f0) ((rd_T36 D y).f1) a9 _ cl.out).mono ?_
          rintro e dY ⟨rfl, hb⟩
          have aE := cw hb hHeld.2.2.2.2.1
          have aG := cw hb hHeld.2.2.2.2.2
          refine ⟨_, rfl, ?_⟩
          replace J := rb J hb
          replace Z := rb Z hb
          replace s := bb s hb rfl
          replace z := bb z hb rfl
          replace I := bb I hb rfl
          replace HK := kl HK hb
          replace HB := hs HB hb
          (try clear hb)
          (try clear hb2)
          (try clear hk)
          (try clear hi)
          refine hK.out _ _ ⟨cx s 0, cx s 1, cx z 0, cx z 1, aE, aG⟩ (fun hHeld => ?_)
          clear hK K
          refine nrm 18 ?_
          refine on 13 20 (fun K hK => ?_)
          refine gs Try.func76 #[.agg #[.int .i64 T, .int .i64 X]] ?_
          with_reducible refine (spec_l2Code.calls T X ba _ cn.out).mono ?_
          rintro e dZ ⟨rfl, hb⟩
          have aE := cw hb hHeld.2.2.2.2.1
          have aG := cw hb hHeld.2.2.2.2.2
          refine ⟨_, rfl, ?_⟩
          replace J := rb J hb
          replace Z := rb Z hb
          replace s := bb s hb rfl
          replace z := bb z hb rfl
          replace I := bb I hb rfl
          replace HK := kl HK hb
          replace HB := hs HB hb
          (try clear hb)
          (try clear hb2)
          (try clear hk)
          (try clear hi)
          refine hK.out _ _ ⟨cx s 0, cx s 1, cx z 0, cx z 1, aE, aG⟩ (fun hHeld => ?_)
          clear hK K
          refine nrm 20 ?_
          refine pu 14 21 ?_
          refine pu 15 22 ?_
          refine dn ?_
          try go_wp2_with (first | ((with_reducible refine gd 25 rfl ?_); refine Kd.R_lit k36 _ 36 ?hg (N := 25) ?hd (xs := ([] : List (S36))) (inner := []) (ok := fun _ => True) (okp := fun _ => True) ?hr ?hp (fun _ hk => hk) trivial (Below.refl _ _) (Nat.le_refl _) (by simp) ?_; (case hd => rfl); (case hg => rfl); (case hr => first | (go_simp; done) | (go_simp; rfl)); (case hp => exact (Reps.none _ _)); intro c4 da aX hb hg_ hnew_; clear hg_ hnew_; (first | rw [← co.out] at aX | (simp only [Int.reduceToNat] at aX; rw [← co.out] at aX)); replace Z := rb Z hb; have aI := am (Kd.R_lower (Kd.R_newB (Kd.R_new' (Kd.R_newM (M := fun k_ => ((L k_ ∨ O k_) ∨ w.heap.size ≤ k_)) aX (by first | exact HK.out.1 | exact (show Kept w _ (fun k_ => L k_ ∨ O k_) from ts HK.out).1) (fun k_ h_ => .inr h_)) (rk J)) (g := Y) (o := .cells #[.int .i64 T, .int .i64 X] 36 (0, 0)) (bf z.out)) (below_size (bs HB.out))); replace J := re J aX hb; replace s := bb s hb rfl; replace z := bb z hb rfl; replace I := bb I hb rfl; replace HK := kl HK hb; replace HB := hs HB hb; clear hb aX; have d0 := br.out; have d1 := bt.out; have d2 := bu.out; have d3 := bv.out; obtain ⟨d4, d5⟩ := bc2 (w := da) s.out; have d6 := blk_frozen s.out; have bU : (y : Int) ≤ ((D.length : Int) : Int) := oda; obtain ⟨d7, ct, _, cu, _⟩ := info_parts info36; have bV : D.length ≤ ab := (Kd.R_reads' J.out).2.1; have cv : Kd.C k36 _ (some ad) D.length D := (Kd.R_reads' J.out).2.2; have db : (0 : Int) ≤ (y : Int) := oda; have dc := cut_from (P := Try.prog) 29 36 .i64 Try.underlying29 ct 2 cu (some ad) D.length ab y db bU; have bh := Kd.C_drop (m := (y : Int).toNat) (c := ab) cv (by omega) bV; obtain ⟨cy, bB⟩ : ∃ A1, A1 = (if ab = (y : Int).toNat then (some ad) else ((some ad) : Option Addr).map (·.add ((y : Int).toNat * 2))) := ⟨_, rfl⟩; obtain ⟨dd, bW⟩ : ∃ c1, c1 = ab - (y : Int).toNat := ⟨_, rfl⟩; have bC : ak.length = D.length - (y : Int).toNat := (by rw [bP.out, List.length_drop] <;> omega); rw [show (D).drop (y : Int).toNat = ak from bP.out.symm] at bh; replace bh : Kd.C k36 _ cy ak.length ak := (by rw [bB]; exact bh); rw [← bC, ← bB, ← bW] at dc; have aY := am bh; have d8 := am (show ak.length ≤ dd from by rw [bC, bW]; exact Nat.sub_le_sub_right bV _); clear bh cv bV ct cu bW; have d9 := am bC; have de := am bB; clear bC bB; have df := am (show (y : Int).toNat ≤ D.length from by omega); replace bU := eq_true bU) | ((with_reducible refine gate_builtin (b := .append) (xs := #[.tmp 25, .tmp 29]) rfl ?_); at_builtin; refine Kd.R_append_rows k36 (w0 := w0) w0.heap.size rfl (.tmp 25) (.tmp 29) 29 36 (.agg #[(.int .i64 0), (.int .i64 0)]) 16 rfl Try.underlying29 info36 rfl (by decide) (by omega) c4 aH ak _ _ _ (fun k_ => ((L k_ ∨ O k_) ∨ w.heap.size ≤ k_) ∧ some k_ ≠ (.slice (some ad) D.length ab : Value).ownBlock ∧ k_ ≠ Y) (fun _ => False) rfl rfl ?aO ?aR (fun _ _ h => h) (fun _ h => h.elim) ?aF ?aB ?aS ?aL ?_; (case aR => repeat (first | exact (by repeat (first | (with_reducible exact aY.out) | (with_reducible refine Kd.C_alloc ?_ _) | (with_reducible refine Kd.C_drewN ?_ _) | (with_reducible refine Kd.C_drew ?_) | exact aY.out)) | (with_reducible refine Kd.C_alloc ?_ _) | (with_reducible refine Kd.C_drewN ?_ _) | (with_reducible refine Kd.C_drew ?_))); (case aB => exact (bs HB.out)); (case aF => exact (fun k_ hk => ⟨(.inr (Nat.le_trans (by first | exact HK.out.1 | exact (show Kept w _ (fun k_ => L k_ ∨ O k_) from ts HK.out).1) hk)), Kd.fresh' (rk J) k_ hk, Kd.freshB (g := Y) (o := .cells #[.int .i64 T, .int .i64 X] 36 (0, 0)) (bf z.out) k_ hk⟩)); (case aO => exact (by (with_reducible repeat (first | apply Kd.R_alloc | apply Kd.R_drewN | apply Kd.R_drew)); exact Kd.R_mono aI.out (fun _ hk => ⟨hk.1.1.1, ⟨hk.1.2, hk.2⟩⟩))); (case aS => exact (below_size (bs HB.out))); (case aL => have := cX.out; omega); intro dg cz ho hb hg hat; rw [← cY.out] at ho; replace Z := am (Kd.R_over' (rl Z.out) (Kd.R_typed (rl aI.out)) (by decide) hg); replace s := gr s aI hg; replace z := am (blk_grown (g := Y) (o := .cells #[.int .i64 T, .int .i64 X] 36 (0, 0)) (bf z.out) hg (Kd.R_away aI.out (fun _ hk => hk.2))); replace I := gr I aI hg; replace HB := am hb; replace HK := am (Kept.of_grown (S := (fun k_ => L k_ ∨ O k_)) hg (ts HK.out) (fun k_ e_ => (aI.out.1 k_ e_).1.1.1)); replace aY := am ((show Kd.C k36 cz cy ak.length ak from by rw [bP.out, de.out]; exact Kd.C_drop (m := (y : Int).toNat) (c := ab) ((Kd.R_reads' (Kd.R_after (ok := (fun k_ => ((L k_ ∨ O k_) ∨ w.heap.size ≤ k_) ∧ k_ ≠ Y)) (rl J.out) hg hat)).2.2) df.out ((Kd.R_reads' (Kd.R_after (ok := (fun k_ => ((L k_ ∨ O k_) ∨ w.heap.size ≤ k_) ∧ k_ ≠ Y)) (rl J.out) hg hat)).2.1))); replace J := am (Kd.R_after (ok := (fun k_ => ((L k_ ∨ O k_) ∨ w.heap.size ≤ k_) ∧ k_ ≠ Y)) (rl J.out) hg hat); have ar := am ho; clear aI; clear ho hb hg hat))
          replace J := rd_ J
          replace Z := rd_ Z
          replace ar := rd_ ar
          replace s := bd s
          replace z := bd z
          replace I := bd I
          replace aY := am (Kd.C_drew aY.out)
          replace HK := am (Kept.drew HK.out)
          replace HB := hd HB
          have bX : (y : Int) ≤ ((D.length : Int) : Int) := oda
          obtain ⟨ea, cA, _, dh, _⟩ := info_parts info36
          have di := cut_to (P := Try.prog) 29 36 .i64 Try.underlying29 cA (some ad) D.length ab y (oda) bX (Kd.R_reads' J.out).2.1
          have bD := Kd.R_take (m := (y : Int).toNat) J.out (by omega)
          have cB : ah.length = (y : Int).toNat := (by rw [cp.out, List.length_take]; omega)
          rw [← cp.out] at bD
          rw [← cB] at bD di
          clear cB cA dh J
          have az := am bD
          clear bD
          replace bX := eq_true bX
          refine sta 11 (fun w' => w'.cell? ⟨ac, 0, none⟩ = some (.slice (some ad) D.length ab) ∧ w'.cell? ⟨ac, 1, none⟩ = some (.slice an aa.length ao) ∧ w'.cell? ⟨Y, 0, none⟩ = some (.int .i64 T) ∧ w'.cell? ⟨Y, 1, none⟩ = some (.int .i64 X)) [10] ⟨cx s 0, cx s 1, cx z 0, cx z 1⟩ (fun hHeld => ?_); refine with_tabW spec_l2PutNode.tab5 spec_l2PutNode.bits5 (fun HT_ HW_ => ?_)
          generalize cz.drew = eb at Z ar s z I aY HK HB az hHeld ⊢
          refine pu 0 31 ?_
          refine pu 2 33 ?_
          refine pu 7 38 ?_
          refine tk 1 32 ?_
          refine pu 3 34 ?_
          refine tk 4 35 ?_
          refine on 5 36 (fun K hK => ?_)
          refine va ?_
          refine hK.out _ _ ⟨cx s 0, cx s 1, cx z 0, cx z 1⟩ (fun hHeld => ?_)
          clear hK K
          refine nrm 36 ?_
          refine on 6 37 (fun K hK => ?_)
          refine Kd.R_append_step k36 (w0 := w0) w0.heap.size (by rfl) (.tmp 34) (.tmp 36) 29 36 (.agg #[(.int .i64 0), (.int .i64 0)]) 16 rfl Try.underlying29 info36 rfl (by decide) (by omega) (.slice (some ad) ah.length ab) ah (⟨T, X⟩ : S36) [.int .i64 T, .int .i64 X] (fun k_ => ((L k_ ∨ O k_) ∨ w.heap.size ≤ k_) ∧ some k_ ≠ (dg : Value).ownBlock ∧ k_ ≠ Y) (fun _ => False) rfl rfl ?aP (fun _ hk => hk.elim) ?aF ?aO ?aB ?aS ?aL ?_
          (case aP => exact k36_mkM _ _ _ (⟨T, X⟩ : S36))
          (case aB => exact (bs HB.out))
          (case aF => exact (fun k_ hk => ⟨(.inr (Nat.le_trans (by first | exact HK.out.1 | exact (show Kept w _ (fun k_ => L k_ ∨ O k_) from ts HK.out).1) hk)), Kd.fresh' (rk ar) k_ hk, Kd.freshB (g := Y) (o := .cells #[.int .i64 T, .int .i64 X] 36 (0, 0)) (bf z.out) k_ hk⟩))
          (case aO => exact (by (with_reducible repeat (first | apply Kd.R_alloc | apply Kd.R_drewN | apply Kd.R_drew)); exact Kd.R_mono az.out (fun _ hk => ⟨hk.1.1, ⟨hk.2, hk.1.2⟩⟩)))
          (case aS => exact (below_size (bs HB.out)))
          (case aL => have := cZ.out; omega)
          intro dj ec ho hb hg hat
          rw [← c0.out] at ho
          replace Z := am (Kd.R_over' (rl Z.out) (Kd.R_typed (rl az.out)) (by decide) hg)
          replace s := gr s az hg
          replace z := am (blk_grown (g := Y) (o := .cells #[.int .i64 T, .int .i64 X] 36 (0, 0)) (bf z.out) hg (Kd.R_away az.out (fun _ hk => hk.1.2)))
          replace I := gr I az hg
          replace ar := am (Kd.R_after (ok := (fun k_ => ((L k_ ∨ O k_) ∨ w.heap.size ≤ k_) ∧ k_ ≠ Y)) (by (with_reducible repeat (first | apply Kd.R_alloc | apply Kd.R_drewN | apply Kd.R_drew)); exact Kd.R_mono ar.out (fun _ hk => ⟨⟨hk.1, hk.2.2⟩, fun e_ => hk.2.1 (e_.trans ob)⟩)) hg hat)
          replace HB := am hb
          replace HK := am (Kept.of_grown (S := (fun k_ => L k_ ∨ O k_)) hg (ts HK.out) (fun k_ e_ => (az.out.1 k_ e_).1.1))
          have aJ := am ho
          clear az
          clear ho hb hg hat
          obtain ⟨dk, dl, cC⟩ := Kd.R_slice ar.out
          (first | subst cC | (injection cC with au aK av; have aM := au.symm; have aN := av.symm; clear au aK av; subst aM; subst aN))
          refine hK.out _ _ ⟨cx s 0, cx s 1, cx z 0, cx z 1⟩ (fun hHeld => ?_)
          clear hK K
          refine nrm 37 ?_
          refine on 8 39 (fun K hK => ?_)
          refine Kd.R_append_rows_step k36 (w0 := w0) w0.heap.size (by rfl) (.tmp 37) (.tmp 38) 29 36 (.agg #[(.int .i64 0), (.int .i64 0)]) 16 rfl Try.underlying29 info36 rfl (by decide) (by omega) dj ae ag _ _ _ (fun k_ => ((L k_ ∨ O k_) ∨ w.heap.size ≤ k_) ∧ some k_ ≠ (.slice dk ag.length dl : Value).ownBlock ∧ k_ ≠ Y) (fun _ => False) rfl rfl ?aO ?aR (fun _ _ h => h) (fun _ h => h.elim) ?aF ?aB ?aS ?aL ?_
          (case aR => exact cr ar)
          (case aB => exact (bs HB.out))
          (case aF => exact (fun k_ hk => ⟨(.inr (Nat.le_trans (by first | exact HK.out.1 | exact (show Kept w _ (fun k_ => L k_ ∨ O k_) from ts HK.out).1) hk)), Kd.fresh' (rk ar) k_ hk, Kd.freshB (g := Y) (o := .cells #[.int .i64 T, .int .i64 X] 36 (0, 0)) (bf z.out) k_ hk⟩))
          (case aO => exact (rl aJ.out))
          (case aS => exact (below_size (bs HB.out)))
          (case aL => have := c2.out; omega)
          intro ed bY ho hb hg hat
          rw [← c3.out] at ho
          replace Z := am (Kd.R_over' (rl Z.out) (Kd.R_typed (rl aJ.out)) (by decide) hg)
          replace s := gr s aJ hg
          replace z := am (blk_grown (g := Y) (o := .cells #[.int .i64 T, .int .i64 X] 36 (0, 0)) (bf z.out) hg (Kd.R_away aJ.out (fun _ hk => hk.2.2)))
          replace I := gr I aJ hg
          replace ar := am (Kd.R_after (ok := (fun k_ => ((L k_ ∨ O k_) ∨ w.heap.size ≤ k_) ∧ k_ ≠ Y)) (rl ar.out) hg hat)
          replace HB := am hb
          replace HK := am (Kept.of_grown (S := (fun k_ => L k_ ∨ O k_)) hg (ts HK.out) (fun k_ e_ => (aJ.out.1 k_ e_).1))
          have cD := am ho
          clear aJ
          clear ho hb hg hat
          obtain ⟨bi, bj, cE⟩ := Kd.R_slice cD.out
          (first | subst cE | (injection cE with au aK av; have aM := au.symm; have aN := av.symm; clear au aK av; subst aM; subst aN))
          refine hK.out _ _ ⟨cx s 0, cx s 1, cx z 0, cx z 1⟩ (fun hHeld => ?_)
          clear hK K
          refine nrm 39 ?_
          refine pu 9 40 ?_
          refine la0 10 (fun K hK => ?_)
          have ee : bY.cell? ⟨ac, 0, none⟩ = some (.slice (some ad) D.length ab) := cx s 0
          have ef := blk_frozen s.out 0
          have eg := bt.out
          have eh := bv.out
          have ei := br.out
          have ej := bu.out
          refine sk ?_
          refine hK.out _ _ ?_
          clear hK K
          refine dn ?_
          obtain ⟨ek, el⟩ := bc2 (w := bY) s.out
          have em := blk_frozen s.out
          have en := ci.out
          have eo := ch.out
          obtain ⟨ep, eq⟩ := bc2 (w := bY) I.out
          have er := blk_frozen I.out
          try go_wp2
          refine bodyPost_ret (results_cell_row rfl _ _ aq 34 #[.slice bi aW.length bj, .slice an aa.length ao] (0, 0) _ rfl (bp I.out rfl) Try.underlying34 rfl (by kernel_rfl)) rfl ?_
          exact ⟨_, _, eqr, by (with_reducible repeat (first | apply Kd.R_alloc | apply Kd.R_drewN | apply Kd.R_drew)); exact Kd.R_mono (Kd.R_far (p := ⟨aq, 1, none⟩) (Kd.R_far (p := ⟨aq, 0, none⟩) (Kd.R_far (p := ⟨ac, 0, none⟩) (Kd.R_types (Kd.R_types cD.out s.out (by decide)) I.out (by decide)) (fun _ hk => hk.1.2) (.slice bi aW.length bj)) (fun _ hk => hk.2) (.slice bi aW.length bj)) (fun _ hk => hk.2) (.slice an aa.length ao)) (fun _ hk => hk.1.1.1), by (with_reducible repeat (first | apply Kd.R_alloc | apply Kd.R_drewN | apply Kd.R_drew)); exact Kd.R_mono (Kd.R_far (p := ⟨aq, 1, none⟩) (Kd.R_far (p := ⟨aq, 0, none⟩) (Kd.R_far (p := ⟨ac, 0, none⟩) (Kd.R_types (Kd.R_types Z.out s.out (by decide)) I.out (by decide)) (fun _ hk => hk.1.2) (.slice bi aW.length bj)) (fun _ hk => hk.2) (.slice bi aW.length bj)) (fun _ hk => hk.2) (.slice an aa.length ao)) (fun _ hk => hk.1.1), bs HB.out, ts HK.out⟩
         ·rw [if_neg bA] at H
          exact absurd H (by simp)
        ·rw [if_neg bz] at H
         exact absurd H (by simp)
       ·rw [if_neg bw] at H
        exact absurd H (by simp)
      ·rw [if_neg bg] at H
       exact absurd H (by simp)
    ·rw [if_neg c9] at H
     exact absurd H (by simp)
   ·rw [if_neg c8] at H
    have cV : decide (y < (D.length : Int)) = false := decide_eq_false c8
    clear c8
    obtain ⟨aQ, bZ⟩ : ∃ y_ : List (S36), y_ = (([] : List (S36))) := ⟨_, rfl⟩
    replace H : (if 0 ≤ y then (if y ≤ (D.length : Int) then ((some (D.drop (y : Int).toNat : List (S36))).bind fun al => (if aQ.length + al.length < 8796093022208 then ((some (aQ ++ al : List (S36))).bind fun ai => ((some (D.take (y : Int).toNat : List (S36))).bind fun aj => (if aj.length < 8796093022208 then ((some (aj ++ [(⟨T, X⟩ : S36)] : List (S36))).bind fun af => (if af.length + ai.length < 8796093022208 then (some ((af ++ ai), aa)) else (none))) else (none)))) else (none))) else (none)) else (none)) = some (r1, r2) := by first | (rw [bZ]; exact H) | exact H
    have cF := am bZ
    clear bZ
    by_cases bk : 0 ≤ y
    ·rw [if_pos bk] at H
     have es := eq_true bk
     have et : decide (0 ≤ y) = true := decide_eq_true bk
     clear bk
     by_cases bl : y ≤ (D.length : Int)
     ·rw [if_pos bl] at H
      have eu := eq_true bl
      have ev : decide (y ≤ (D.length : Int)) = true := decide_eq_true bl
      clear bl
      obtain ⟨al, b0⟩ : ∃ y_ : List (S36), y_ = (D.drop (y : Int).toNat) := ⟨_, rfl⟩
      replace H : (if aQ.length + al.length < 8796093022208 then ((some (aQ ++ al : List (S36))).bind fun ai => ((some (D.take (y : Int).toNat : List (S36))).bind fun aj => (if aj.length < 8796093022208 then ((some (aj ++ [(⟨T, X⟩ : S36)] : List (S36))).bind fun af => (if af.length + ai.length < 8796093022208 then (some ((af ++ ai), aa)) else (none))) else (none)))) else (none)) = some (r1, r2) := by first | (rw [b0]; exact H) | exact H
      have b1 := am b0
      clear b0
      by_cases bE : aQ.length + al.length < 8796093022208
      ·rw [if_pos bE] at H
       have dm := am bE
       clear bE
       obtain ⟨ai, b2⟩ : ∃ y_ : List (S36), y_ = (aQ ++ al) := ⟨_, rfl⟩
       replace H : ((some (D.take (y : Int).toNat : List (S36))).bind fun aj => (if aj.length < 8796093022208 then ((some (aj ++ [(⟨T, X⟩ : S36)] : List (S36))).bind fun af => (if af.length + ai.length < 8796093022208 then (some ((af ++ ai), aa)) else (none))) else (none))) = some (r1, r2) := by first | (rw [b2]; exact H) | exact H
       have dp := am b2
       clear b2
       have ew := eq_true (oda : y ≤ (D.length : Int))
       obtain ⟨aj, b3⟩ : ∃ y_ : List (S36), y_ = (D.take (y : Int).toNat) := ⟨_, rfl⟩
       replace H : (if aj.length < 8796093022208 then ((some (aj ++ [(⟨T, X⟩ : S36)] : List (S36))).bind fun af => (if af.length + ai.length < 8796093022208 then (some ((af ++ ai), aa)) else (none))) else (none)) = some (r1, r2) := by first | (rw [b3]; exact H) | exact H
       have cG := am b3
       clear b3
       by_cases bF : aj.length < 8796093022208
       ·rw [if_pos bF] at H
        have dq := am bF
        clear bF
        obtain ⟨af, b4⟩ : ∃ y_ : List (S36), y_ = (aj ++ [(⟨T, X⟩ : S36)]) := ⟨_, rfl⟩
        replace H : (if af.length + ai.length < 8796093022208 then (some ((af ++ ai), aa)) else (none)) = some (r1, r2) := by first | (rw [b4]; exact H) | exact H
        have dr := am b4
        clear b4
        by_cases bG : af.length + ai.length < 8796093022208
        ·rw [if_pos bG] at H
         have dt := am bG
         clear bG
         obtain ⟨aZ, b5⟩ : ∃ y_ : List (S36), y_ = (af ++ ai) := ⟨_, rfl⟩
         replace H : (some (aZ, aa)) = some (r1, r2) := by first | (rw [b5]; exact H) | exact H
         have du := am b5
         clear b5
         simp only [Option.some.injEq, Prod.mk.injEq] at H
         obtain ⟨rfl, rfl⟩ := H
         try go_wp2
         replace J := rd_ J
         replace Z := rd_ Z
         replace s := bd s
         replace z := bd z
         replace I := bd I
         replace HK := am (Kept.drew HK.out)
         replace HB := hd HB
         refine sta 16 (fun w' => w'.cell? ⟨ac, 0, none⟩ = some (.slice ap D.length ab) ∧ w'.cell? ⟨ac, 1, none⟩ = some (.slice an aa.length ao)) [] ⟨cx s 0, cx s 1⟩ (fun hHeld => ?_); refine with_tabW spec_l2PutNode.tab2 spec_l2PutNode.bits2 (fun HT_ HW_ => ?_)
         generalize wr.drew = ex at J Z s z I HK HB hHeld ⊢
         refine pu 0 7 ?_
         refine pu 1 8 ?_
         refine tk 2 9 ?_
         refine pu 3 10 ?_
         refine pu 4 11 ?_
         refine pu 5 12 ?_
         refine ud 6 13 ?_
         refine ud 7 14 ?_
         refine ud 8 15 ?_
         refine ud 9 16 ?_
         refine ud 10 17 ?_
         refine ud 11 18 ?_
         refine ud 12 19 ?_
         refine ud 13 20 ?_
         refine ud 14 21 ?_
         refine pu 15 22 ?_
         refine dn ?_
         try go_wp2_with (first | ((with_reducible refine gd 25 rfl ?_); refine Kd.R_lit k36 _ 36 ?hg (N := 25) ?hd (xs := ([] : List (S36))) (inner := []) (ok := fun _ => True) (okp := fun _ => True) ?hr ?hp (fun _ hk => hk) trivial (Below.refl _ _) (Nat.le_refl _) (by simp) ?_; (case hd => rfl); (case hg => rfl); (case hr => first | (go_simp; done) | (go_simp; rfl)); (case hp => exact (Reps.none _ _)); intro dv dw a7 hb hg_ hnew_; clear hg_ hnew_; (first | rw [← cF.out] at a7 | (simp only [Int.reduceToNat] at a7; rw [← cF.out] at a7)); replace Z := rb Z hb; have aT := am (Kd.R_lower (Kd.R_newB (Kd.R_new' (Kd.R_newM (M := fun k_ => ((L k_ ∨ O k_) ∨ w.heap.size ≤ k_)) a7 (by first | exact HK.out.1 | exact (show Kept w _ (fun k_ => L k_ ∨ O k_) from ts HK.out).1) (fun k_ h_ => .inr h_)) (rk J)) (g := Y) (o := .cells #[.int .i64 T, .int .i64 X] 36 (0, 0)) (bf z.out)) (below_size (bs HB.out))); replace J := re J a7 hb; replace s := bb s hb rfl; replace z := bb z hb rfl; replace I := bb I hb rfl; replace HK := kl HK hb; replace HB := hs HB hb; clear hb a7; have ey := br.out; have ez := bt.out; have eA := bu.out; have eB := bv.out; obtain ⟨eC, eD⟩ := bc2 (w := dw) s.out; have eE := blk_frozen s.out; have b6 : (y : Int) ≤ ((D.length : Int) : Int) := oda; obtain ⟨eF, cH, _, cI, _⟩ := info_parts info36; have b7 : D.length ≤ ab := (Kd.R_reads' J.out).2.1; have cJ : Kd.C k36 _ ap D.length D := (Kd.R_reads' J.out).2.2; have dx : (0 : Int) ≤ (y : Int) := oda; have dy := cut_from (P := Try.prog) 29 36 .i64 Try.underlying29 cH 2 cI ap D.length ab y dx b6; have bm := Kd.C_drop (m := (y : Int).toNat) (c := ab) cJ (by omega) b7; obtain ⟨cK, bH⟩ : ∃ A1, A1 = (if ab = (y : Int).toNat then ap else (ap : Option Addr).map (·.add ((y : Int).toNat * 2))) := ⟨_, rfl⟩; obtain ⟨dz, b8⟩ : ∃ c1, c1 = ab - (y : Int).toNat := ⟨_, rfl⟩; have bI : al.length = D.length - (y : Int).toNat := (by rw [b1.out, List.length_drop] <;> omega); rw [show (D).drop (y : Int).toNat = al from b1.out.symm] at bm; replace bm : Kd.C k36 _ cK al.length al := (by rw [bH]; exact bm); rw [← bI, ← bH, ← b8] at dy; have a8 := am bm; have eG := am (show al.length ≤ dz from by rw [bI, b8]; exact Nat.sub_le_sub_right b7 _); clear bm cJ b7 cH cI b8; have eH := am bI; have dA := am bH; clear bI bH; have dB := am (show (y : Int).toNat ≤ D.length from by omega); replace b6 := eq_true b6) | ((with_reducible refine gate_builtin (b := .append) (xs := #[.tmp 25, .tmp 29]) rfl ?_); at_builtin; refine Kd.R_append_rows k36 (w0 := w0) w0.heap.size rfl (.tmp 25) (.tmp 29) 29 36 (.agg #[(.int .i64 0), (.int .i64 0)]) 16 rfl Try.underlying29 info36 rfl (by decide) (by omega) dv aQ al _ _ _ (fun k_ => ((L k_ ∨ O k_) ∨ w.heap.size ≤ k_) ∧ some k_ ≠ (.slice ap D.length ab : Value).ownBlock ∧ k_ ≠ Y) (fun _ => False) rfl rfl ?aO ?aR (fun _ _ h => h) (fun _ h => h.elim) ?aF ?aB ?aS ?aL ?_; (case aR => repeat (first | exact (by repeat (first | (with_reducible exact a8.out) | (with_reducible refine Kd.C_alloc ?_ _) | (with_reducible refine Kd.C_drewN ?_ _) | (with_reducible refine Kd.C_drew ?_) | exact a8.out)) | (with_reducible refine Kd.C_alloc ?_ _) | (with_reducible refine Kd.C_drewN ?_ _) | (with_reducible refine Kd.C_drew ?_))); (case aB => exact (bs HB.out)); (case aF => exact (fun k_ hk => ⟨(.inr (Nat.le_trans (by first | exact HK.out.1 | exact (show Kept w _ (fun k_ => L k_ ∨ O k_) from ts HK.out).1) hk)), Kd.fresh' (rk J) k_ hk, Kd.freshB (g := Y) (o := .cells #[.int .i64 T, .int .i64 X] 36 (0, 0)) (bf z.out) k_ hk⟩)); (case aO => exact (by (with_reducible repeat (first | apply Kd.R_alloc | apply Kd.R_drewN | apply Kd.R_drew)); exact Kd.R_mono aT.out (fun _ hk => ⟨hk.1.1.1, ⟨hk.1.2, hk.2⟩⟩))); (case aS => exact (below_size (bs HB.out))); (case aL => have := dm.out; omega); intro dC cL ho hb hg hat; rw [← dp.out] at ho; replace Z := am (Kd.R_over' (rl Z.out) (Kd.R_typed (rl aT.out)) (by decide) hg); replace s := gr s aT hg; replace z := am (blk_grown (g := Y) (o := .cells #[.int .i64 T, .int .i64 X] 36 (0, 0)) (bf z.out) hg (Kd.R_away aT.out (fun _ hk => hk.2))); replace I := gr I aT hg; replace HB := am hb; replace HK := am (Kept.of_grown (S := (fun k_ => L k_ ∨ O k_)) hg (ts HK.out) (fun k_ e_ => (aT.out.1 k_ e_).1.1.1)); replace a8 := am ((show Kd.C k36 cL cK al.length al from by rw [b1.out, dA.out]; exact Kd.C_drop (m := (y : Int).toNat) (c := ab) ((Kd.R_reads' (Kd.R_after (ok := (fun k_ => ((L k_ ∨ O k_) ∨ w.heap.size ≤ k_) ∧ k_ ≠ Y)) (rl J.out) hg hat)).2.2) dB.out ((Kd.R_reads' (Kd.R_after (ok := (fun k_ => ((L k_ ∨ O k_) ∨ w.heap.size ≤ k_) ∧ k_ ≠ Y)) (rl J.out) hg hat)).2.1))); replace J := am (Kd.R_after (ok := (fun k_ => ((L k_ ∨ O k_) ∨ w.heap.size ≤ k_) ∧ k_ ≠ Y)) (rl J.out) hg hat); have aw := am ho; clear aT; clear ho hb hg hat))
         replace J := rd_ J
         replace Z := rd_ Z
         replace aw := rd_ aw
         replace s := bd s
         replace z := bd z
         replace I := bd I
         replace a8 := am (Kd.C_drew a8.out)
         replace HK := am (Kept.drew HK.out)
         replace HB := hd HB
         have b9 : (y : Int) ≤ ((D.length : Int) : Int) := oda
         obtain ⟨eI, cM, _, dD, _⟩ := info_parts info36
         have dE := cut_to (P := Try.prog) 29 36 .i64 Try.underlying29 cM ap D.length ab y (oda) b9 (Kd.R_reads' J.out).2.1
         have bJ := Kd.R_take (m := (y : Int).toNat) J.out (by omega)
         have cN : aj.length = (y : Int).toNat := (by rw [cG.out, List.length_take]; omega)
         rw [← cG.out] at bJ
         rw [← cN] at bJ dE
         clear cN cM dD J
         have aA := am bJ
         clear bJ
         replace b9 := eq_true b9
         refine sta 11 (fun w' => w'.cell? ⟨ac, 0, none⟩ = some (.slice ap D.length ab) ∧ w'.cell? ⟨ac, 1, none⟩ = some (.slice an aa.length ao) ∧ w'.cell? ⟨Y, 0, none⟩ = some (.int .i64 T) ∧ w'.cell? ⟨Y, 1, none⟩ = some (.int .i64 X)) [10] ⟨cx s 0, cx s 1, cx z 0, cx z 1⟩ (fun hHeld => ?_); refine with_tabW spec_l2PutNode.tab5 spec_l2PutNode.bits5 (fun HT_ HW_ => ?_)
         generalize cL.drew = eJ at Z aw s z I a8 HK HB aA hHeld ⊢
         refine pu 0 31 ?_
         refine pu 2 33 ?_
         refine pu 7 38 ?_
         refine tk 1 32 ?_
         refine pu 3 34 ?_
         refine tk 4 35 ?_
         refine on 5 36 (fun K hK => ?_)
         refine va ?_
         refine hK.out _ _ ⟨cx s 0, cx s 1, cx z 0, cx z 1⟩ (fun hHeld => ?_)
         clear hK K
         refine nrm 36 ?_
         refine on 6 37 (fun K hK => ?_)
         refine Kd.R_append_step k36 (w0 := w0) w0.heap.size (by rfl) (.tmp 34) (.tmp 36) 29 36 (.agg #[(.int .i64 0), (.int .i64 0)]) 16 rfl Try.underlying29 info36 rfl (by decide) (by omega) (.slice ap aj.length ab) aj (⟨T, X⟩ : S36) [.int .i64 T, .int .i64 X] (fun k_ => ((L k_ ∨ O k_) ∨ w.heap.size ≤ k_) ∧ some k_ ≠ (dC : Value).ownBlock ∧ k_ ≠ Y) (fun _ => False) rfl rfl ?aP (fun _ hk => hk.elim) ?aF ?aO ?aB ?aS ?aL ?_
         (case aP => exact k36_mkM _ _ _ (⟨T, X⟩ : S36))
         (case aB => exact (bs HB.out))
         (case aF => exact (fun k_ hk => ⟨(.inr (Nat.le_trans (by first | exact HK.out.1 | exact (show Kept w _ (fun k_ => L k_ ∨ O k_) from ts HK.out).1) hk)), Kd.fresh' (rk aw) k_ hk, Kd.freshB (g := Y) (o := .cells #[.int .i64 T, .int .i64 X] 36 (0, 0)) (bf z.out) k_ hk⟩))
         (case aO => exact (by (with_reducible repeat (first | apply Kd.R_alloc | apply Kd.R_drewN | apply Kd.R_drew)); exact Kd.R_mono aA.out (fun _ hk => ⟨hk.1.1, ⟨hk.2, hk.1.2⟩⟩)))
         (case aS => exact (below_size (bs HB.out)))
         (case aL => have := dq.out; omega)
         intro dF eK ho hb hg hat
         rw [← dr.out] at ho
         replace Z := am (Kd.R_over' (rl Z.out) (Kd.R_typed (rl aA.out)) (by decide) hg)
         replace s := gr s aA hg
         replace z := am (blk_grown (g := Y) (o := .cells #[.int .i64 T, .int .i64 X] 36 (0, 0)) (bf z.out) hg (Kd.R_away aA.out (fun _ hk => hk.1.2)))
         replace I := gr I aA hg
         replace aw := am (Kd.R_after (ok := (fun k_ => ((L k_ ∨ O k_) ∨ w.heap.size ≤ k_) ∧ k_ ≠ Y)) (by (with_reducible repeat (first | apply Kd.R_alloc | apply Kd.R_drewN | apply Kd.R_drew)); exact Kd.R_mono aw.out (fun _ hk => ⟨⟨hk.1, hk.2.2⟩, fun e_ => hk.2.1 (e_.trans ob)⟩)) hg hat)
         replace HB := am hb
         replace HK := am (Kept.of_grown (S := (fun k_ => L k_ ∨ O k_)) hg (ts HK.out) (fun k_ e_ => (aA.out.1 k_ e_).1.1))
         have aU := am ho
         clear aA
         clear ho hb hg hat
         obtain ⟨dG, dH, cO⟩ := Kd.R_slice aw.out
         (first | subst cO | (injection cO with au aK av; have aM := au.symm; have aN := av.symm; clear au aK av; subst aM; subst aN))
         refine hK.out _ _ ⟨cx s 0, cx s 1, cx z 0, cx z 1⟩ (fun hHeld => ?_)
         clear hK K
         refine nrm 37 ?_
         refine on 8 39 (fun K hK => ?_)
         refine Kd.R_append_rows_step k36 (w0 := w0) w0.heap.size (by rfl) (.tmp 37) (.tmp 38) 29 36 (.agg #[(.int .i64 0), (.int .i64 0)]) 16 rfl Try.underlying29 info36 rfl (by decide) (by omega) dF af ai _ _ _ (fun k_ => ((L k_ ∨ O k_) ∨ w.heap.size ≤ k_) ∧ some k_ ≠ (.slice dG ai.length dH : Value).ownBlock ∧ k_ ≠ Y) (fun _ => False) rfl rfl ?aO ?aR (fun _ _ h => h) (fun _ h => h.elim) ?aF ?aB ?aS ?aL ?_
         (case aR => exact cr aw)
         (case aB => exact (bs HB.out))
         (case aF => exact (fun k_ hk => ⟨(.inr (Nat.le_trans (by first | exact HK.out.1 | exact (show Kept w _ (fun k_ => L k_ ∨ O k_) from ts HK.out).1) hk)), Kd.fresh' (rk aw) k_ hk, Kd.freshB (g := Y) (o := .cells #[.int .i64 T, .int .i64 X] 36 (0, 0)) (bf z.out) k_ hk⟩))
         (case aO => exact (rl aU.out))
         (case aS => exact (below_size (bs HB.out)))
         (case aL => have := dt.out; omega)
         intro eL ce ho hb hg hat
         rw [← du.out] at ho
         replace Z := am (Kd.R_over' (rl Z.out) (Kd.R_typed (rl aU.out)) (by decide) hg)
         replace s := gr s aU hg
         replace z := am (blk_grown (g := Y) (o := .cells #[.int .i64 T, .int .i64 X] 36 (0, 0)) (bf z.out) hg (Kd.R_away aU.out (fun _ hk => hk.2.2)))
         replace I := gr I aU hg
         replace aw := am (Kd.R_after (ok := (fun k_ => ((L k_ ∨ O k_) ∨ w.heap.size ≤ k_) ∧ k_ ≠ Y)) (rl aw.out) hg hat)
         replace HB := am hb
         replace HK := am (Kept.of_grown (S := (fun k_ => L k_ ∨ O k_)) hg (ts HK.out) (fun k_ e_ => (aU.out.1 k_ e_).1))
         have cP := am ho
         clear aU
         clear ho hb hg hat
         obtain ⟨bn, bo, cQ⟩ := Kd.R_slice cP.out
         (first | subst cQ | (injection cQ with au aK av; have aM := au.symm; have aN := av.symm; clear au aK av; subst aM; subst aN))
         refine hK.out _ _ ⟨cx s 0, cx s 1, cx z 0, cx z 1⟩ (fun hHeld => ?_)
         clear hK K
         refine nrm 39 ?_
         refine pu 9 40 ?_
         refine la0 10 (fun K hK => ?_)
         have eM : ce.cell? ⟨ac, 0, none⟩ = some (.slice ap D.length ab) := cx s 0
         have eN := blk_frozen s.out 0
         have eO := bt.out
         have eP := bv.out
         have eQ := br.out
         have eR := bu.out
         refine sk ?_
         refine hK.out _ _ ?_
         clear hK K
         refine dn ?_
         obtain ⟨eS, eT⟩ := bc2 (w := ce) s.out
         have eU := blk_frozen s.out
         have eV := ci.out
         have eW := ch.out
         obtain ⟨eX, eY⟩ := bc2 (w := ce) I.out
         have eZ := blk_frozen I.out
         try go_wp2
         refine bodyPost_ret (results_cell_row rfl _ _ aq 34 #[.slice bn aZ.length bo, .slice an aa.length ao] (0, 0) _ rfl (bp I.out rfl) Try.underlying34 rfl (by kernel_rfl)) rfl ?_
         exact ⟨_, _, eqr, by (with_reducible repeat (first | apply Kd.R_alloc | apply Kd.R_drewN | apply Kd.R_drew)); exact Kd.R_mono (Kd.R_far (p := ⟨aq, 1, none⟩) (Kd.R_far (p := ⟨aq, 0, none⟩) (Kd.R_far (p := ⟨ac, 0, none⟩) (Kd.R_types (Kd.R_types cP.out s.out (by decide)) I.out (by decide)) (fun _ hk => hk.1.2) (.slice bn aZ.length bo)) (fun _ hk => hk.2) (.slice bn aZ.length bo)) (fun _ hk => hk.2) (.slice an aa.length ao)) (fun _ hk => hk.1.1.1), by (with_reducible repeat (first | apply Kd.R_alloc | apply Kd.R_drewN | apply Kd.R_drew)); exact Kd.R_mono (Kd.R_far (p := ⟨aq, 1, none⟩) (Kd.R_far (p := ⟨aq, 0, none⟩) (Kd.R_far (p := ⟨ac, 0, none⟩) (Kd.R_types (Kd.R_types Z.out s.out (by decide)) I.out (by decide)) (fun _ hk => hk.1.2) (.slice bn aZ.length bo)) (fun _ hk => hk.2) (.slice bn aZ.length bo)) (fun _ hk => hk.2) (.slice an aa.length ao)) (fun _ hk => hk.1.1), bs HB.out, ts HK.out⟩
        ·rw [if_neg bG] at H
         exact absurd H (by simp)
       ·rw [if_neg bF] at H
        exact absurd H (by simp)
      ·rw [if_neg bE] at H
       exact absurd H (by simp)
     ·rw [if_neg bl] at H
      exact absurd H (by simp)
    ·rw [if_neg bk] at H
     exact absurd H (by simp)

/-! ### spec_l2EdgeAt: function 144 -/
def spec_l2EdgeAt.l0 : Nat → Int → List (S36) → List (S56) → Int → Int → Int → Int → Int → Option (Int)
 | 0, _, _, _, _, _, _, _, _ => none
 | k + 1, s, L, y, z, D, G, I, J => if s < (y.length : Int) then (if 0 ≤ s then (if (((rd_T56 y s).f0) == z && ((((rd_T56 y s).f1.f0) == D && (((rd_T56 y s).f1.f1) == G)) && ((((rd_T56 y s).f2.f0) == I && (((rd_T56 y s).f2.f1) == J))))) = true then (some s) else (spec_l2EdgeAt.l0 k (wrap64 (s + 1)) L y z D G I J)) else (none)) else (some (-1))
def spec_l2EdgeAt.f (k : Nat) (s : List (S36)) (y : List (S56)) (z : Int) (D : Int) (G : Int) (I : Int) (J : Int) : Option (Int) := spec_l2EdgeAt.l0 k 0 s y z D G I J
theorem spec_l2EdgeAt.calls (k : Nat) (ab : Option Addr) (ac : Nat) (X : List (S36)) (ad : Option Addr) (ae : Nat) (s : List (S56)) (G : Int) (I : Int) (J : Int) (L : Int) (O : Int) (r : Int) (w : World) (aq : Kd.C k36 w ab X.length X) (ar : X.length ≤ ac) (au : Kd.C k56 w ad s.length s) (av : s.length ≤ ae) (h : spec_l2EdgeAt.f k X s G I J L O = some r) :
  Calls Try.prog 144 #[.agg #[.slice ab X.length ac, .slice ad s.length ae], .agg #[.int .i64 G, .int .i64 I, .int .i64 J, .int .i64 L, .int .i64 O]] w fun e w' => e = .returned (.int .i64 r) ∧ Below w.heap.size w w' := by
 have hu34 := Try.underlying34
 have hu56 := Try.underlying56
 have aH := am aq
 have aI := am ar
 clear aq ar
 have aw := am au
 have aJ := am av
 clear au av
 have HB := am (Below.refl w.heap.size w)
 have H := h; unfold spec_l2EdgeAt.f at H
 clear h
 have H' := am H
 clear H
 go_enter Try.func144, Try.ntmps144
 go_wp2_with (first | ((with_reducible refine gd 2 rfl ?_); refine bx 2 (cs := #[.slice ab X.length ac, .slice ad s.length ae]) (t := 34) ?_; intro an hg w3 hbox hb; have D := am hbox; have ax := gwb HB hg; replace HB := hs HB hb; clear hb hbox hg) | ((with_reducible refine gd 3 rfl ?_); refine bx 3 (cs := #[.int .i64 G, .int .i64 I, .int .i64 J, .int .i64 L, .int .i64 O]) (t := 56) ?_; intro ao hg w4 hbox hb; have Y := am hbox; have ay := gwb HB hg; replace HB := hs HB hb; have af := nq D hg; have ag := nq' D hg; replace D := bb D hb rfl; clear hb hbox hg))
 repeat (go_quiet (first | ((with_reducible refine gd 2 rfl ?_); refine bx 2 (cs := #[.slice ab X.length ac, .slice ad s.length ae]) (t := 34) ?_; intro an hg w3 hbox hb; have D := am hbox; have ax := gwb HB hg; replace HB := hs HB hb; clear hb hbox hg) | ((with_reducible refine gd 3 rfl ?_); refine bx 3 (cs := #[.int .i64 G, .int .i64 I, .int .i64 J, .int .i64 L, .int .i64 O]) (t := 56) ?_; intro ao hg w4 hbox hb; have Y := am hbox; have ay := gwb HB hg; replace HB := hs HB hb; have af := nq D hg; have ag := nq' D hg; replace D := bb D hb rfl; clear hb hbox hg)); try go_wp2_with (first | ((with_reducible refine gd 2 rfl ?_); refine bx 2 (cs := #[.slice ab X.length ac, .slice ad s.length ae]) (t := 34) ?_; intro an hg w3 hbox hb; have D := am hbox; have ax := gwb HB hg; replace HB := hs HB hb; clear hb hbox hg) | ((with_reducible refine gd 3 rfl ?_); refine bx 3 (cs := #[.int .i64 G, .int .i64 I, .int .i64 J, .int .i64 L, .int .i64 O]) (t := 56) ?_; intro ao hg w4 hbox hb; have Y := am hbox; have ay := gwb HB hg; replace HB := hs HB hb; have af := nq D hg; have ag := nq' D hg; replace D := bb D hb rfl; clear hb hbox hg)))
 go_loopg [5] k (fun kq v5 w' => ∃ (y : Int), v5 = .int .i64 y ∧ Aside0 (spec_l2EdgeAt.l0 kq y X s G I J L O = some r) ∧ Aside0 (kq ≤ k) ∧ Aside0 (w'.heap[an]? = some (.cells #[(.slice ab X.length ac), (.slice ad s.length ae)] 34 (0, 0))) ∧ Aside0 (w'.heap[ao]? = some (.cells #[.int .i64 G, .int .i64 I, .int .i64 J, .int .i64 L, .int .i64 O] 56 (0, 0))) ∧ Aside0 (Below w.heap.size w w'))
 case atStart => exact ⟨(0), eqs, H', ⟨Nat.le_refl _⟩, ⟨bf D.out⟩, ⟨bf Y.out⟩, ⟨bs HB.out⟩⟩
 case round =>
  clear H'
  try clear c1
  try clear p2
  obtain ⟨y, rfl, HA, az, D, Y, HB⟩ := hrel
  cases gk with
  | zero => exact absurd HA.out (by simp [spec_l2EdgeAt.l0])
  | succ k1 =>
   have H := HA.out
   clear HA
   simp only [spec_l2EdgeAt.l0] at H
   by_cases c5 : y < (s.length : Int)
   ·rw [if_pos c5] at H
    have aA : decide (y < (s.length : Int)) = true := decide_eq_true c5
    clear c5
    by_cases c6 : 0 ≤ y
    ·rw [if_pos c6] at H
     have aK : decide (0 ≤ y) = true := decide_eq_true c6
     clear c6
     by_cases T : (((rd_T56 s y).f0) == G && ((((rd_T56 s y).f1.f0) == I && (((rd_T56 s y).f1.f1) == J)) && ((((rd_T56 s y).f2.f0) == L && (((rd_T56 s y).f2.f1) == O))))) = true
     ·rw [if_pos T] at H
      have aC : (((rd_T56 s y).f0) == G && ((((rd_T56 s y).f1.f0) == I && (((rd_T56 s y).f1.f1) == J)) && ((((rd_T56 s y).f2.f0) == L && (((rd_T56 s y).f2.f1) == O))))) = true := T
      (try (have aD : decide (((rd_T56 s y).f0) = G && ((((rd_T56 s y).f1.f0) == I && (((rd_T56 s y).f1.f1) == J)) && ((((rd_T56 s y).f2.f0) == L && (((rd_T56 s y).f2.f1) == O))))) = true := by simpa using T))
      (try (have aE : (((rd_T56 s y).f0) == G && ((((rd_T56 s y).f1.f0) == I && (((rd_T56 s y).f1.f1) == J)) && ((((rd_T56 s y).f2.f0) == L && (((rd_T56 s y).f2.f1) == O))))) = true := by simpa using T))
      clear T
      obtain rfl := Option.some.inj H
      have aM := af.out
      have aN := ag.out
      obtain ⟨aQ, aT⟩ := bc2 (w := wr) D.out
      have aU := blk_frozen D.out
      have Z : 0 ≤ (y : Int) := oda
      have aa : y < (s.length : Int) := oda
      obtain ⟨aG, ap, ah, ai, aj, ak, al⟩ := at_T56 aw.out y Z aa
      cases ap
      replace ah := cb HB ah
      replace ai := cb HB ai
      replace aj := cb HB aj
      replace ak := cb HB ak
      replace al := cb HB al
      replace Z := eq_true Z
      replace aa := eq_true aa
      obtain ⟨aV, aW, aX, aY, aZ⟩ := bc5 (w := wr) Y.out
      have a7 := blk_frozen Y.out
      go_wp2
      repeat (go_quiet (fail); try go_wp2)
      go_ret
      exact ⟨eqr, bs HB.out⟩
     ·rw [if_neg T] at H
      have aC : (((rd_T56 s y).f0) == G && ((((rd_T56 s y).f1.f0) == I && (((rd_T56 s y).f1.f1) == J)) && ((((rd_T56 s y).f2.f0) == L && (((rd_T56 s y).f2.f1) == O))))) = false := by simpa using T
      (try (have aD : decide (((rd_T56 s y).f0) = G && ((((rd_T56 s y).f1.f0) == I && (((rd_T56 s y).f1.f1) == J)) && ((((rd_T56 s y).f2.f0) == L && (((rd_T56 s y).f2.f1) == O))))) = false := by simpa using T))
      (try (have aE : (((rd_T56 s y).f0) == G && ((((rd_T56 s y).f1.f0) == I && (((rd_T56 s y).f1.f1) == J)) && ((((rd_T56 s y).f2.f0) == L && (((rd_T56 s y).f2.f1) == O))))) = false := by simpa using T))
      (try (have a8 : ¬ (((rd_T56 s y).f0) = G && ((((rd_T56 s y).f1.f0) == I && (((rd_T56 s y).f1.f1) == J)) && ((((rd_T56 s y).f2.f0) == L && (((rd_T56 s y).f2.f1) == O))))) := by simpa using T))
      clear T
      have H' := am H
      clear H
      have a9 := af.out
      have ba := ag.out
      obtain ⟨bc, be⟩ := bc2 (w := wr) D.out
      have bg := blk_frozen D.out
      have Z : 0 ≤ (y : Int) := oda
      have aa : y < (s.length : Int) := oda
      obtain ⟨aG, ap, ah, ai, aj, ak, al⟩ := at_T56 aw.out y Z aa
      cases ap
      replace ah := cb HB ah
      replace ai := cb HB ai
      replace aj := cb HB aj
      replace ak := cb HB ak
      replace al := cb HB al
      replace Z := eq_true Z
      replace aa := eq_true aa
      obtain ⟨bh, bi, bj, bk, bl⟩ := bc5 (w := wr) Y.out
      have bm := blk_frozen Y.out
      go_wp2
      repeat (go_quiet (fail); try go_wp2)
      go_roundg k1
      case measure => have := az.out; omega
      case rel => exact ⟨(wrap64 (y + 1)), eqs, H', ⟨by have := az.out; omega⟩, ⟨bf D.out⟩, ⟨bf Y.out⟩, ⟨bs HB.out⟩⟩
    ·rw [if_neg c6] at H
     exact absurd H (by simp)
   ·rw [if_neg c5] at H
    have aA : decide (y < (s.length : Int)) = false := decide_eq_false c5
    clear c5
    obtain rfl := Option.some.inj H
    have bn := af.out
    have bo := ag.out
    obtain ⟨br, bt⟩ := bc2 (w := wr) D.out
    have bu := blk_frozen D.out
    go_wp2
    repeat (go_quiet (fail); try go_wp2)
    go_ret
    exact ⟨eqr, bs HB.out⟩

end Go.Proofs.Ytohmemckdogljaa.QFnExactGraphDo
