/- Contracts of the Go functions that this law reaches: each does what its plain Lean function says. No condition. -/
import Derived.Test.YtkbamcicbofjbaaQFnStoreNarrowx0
import Derived.Test.YtkbamcicbofjbaaQFnStoreNarrowx2
import Derived.Test.YtkbamcicbofjbaaQFnStoreNarrowx5
namespace Go.Proofs.Ytkbamcicbofjbaa.QFnStoreNarrow
open Go.RowKit Go.Proofs.YtkbamcicbofjbaaW.PrintWords Go.Proofs.YtkbamcicbofjbaaW.PrintLast Go.Proofs.YtkbamcicbofjbaaW.PrintMore Go.Proofs.Ytkbamcicbofjbaa.Bl
attribute [local go_sem] max2_int min2_int max_two min_two max_three min_three max_four min_four   -- for this text's walks alone
set_option linter.unusedVariables false
set_option linter.unusedSimpArgs false
set_option maxHeartbeats 8000000
set_option maxRecDepth 100000

attribute [local go_sem high] eqA55
/-! ### spec_l2PutNode: function 36 -/
def spec_l2PutNode.l0 : Nat → Int → List (S55) → List (S57) → Int → Int → Option ((List (S55)) × (List (S57)))
 | 0, _, _, _, _, _ => none
 | k + 1, s, y, G, z, D => if s < (y.length : Int) then (if 0 ≤ s then ((spec_l2Code.f ((rd_T55 y s).f0) ((rd_T55 y s).f1)).bind fun ac => ((spec_l2Code.f z D).bind fun ad => (if ac < ad then (spec_l2PutNode.l0 k (wrap64 (s + 1)) y G z D) else ((some (([] : List (S55)) : List (S55))).bind fun I => (if s ≤ (y.length : Int) then ((some (y.drop (s : Int).toNat : List (S55))).bind fun J => (if I.length + J.length < 8796093022208 then ((some (I ++ J : List (S55))).bind fun L => ((some (y.take (s : Int).toNat : List (S55))).bind fun O => (if O.length < 8796093022208 then ((some (O ++ [(⟨z, D⟩ : S55)] : List (S55))).bind fun T => (if T.length + L.length < 8796093022208 then (some ((T ++ L), G)) else (none))) else (none)))) else (none))) else (none)))))) else (none)) else ((some (([] : List (S55)) : List (S55))).bind fun X => (if 0 ≤ s then (if s ≤ (y.length : Int) then ((some (y.drop (s : Int).toNat : List (S55))).bind fun Y => (if X.length + Y.length < 8796093022208 then ((some (X ++ Y : List (S55))).bind fun Z => ((some (y.take (s : Int).toNat : List (S55))).bind fun aa => (if aa.length < 8796093022208 then ((some (aa ++ [(⟨z, D⟩ : S55)] : List (S55))).bind fun ab => (if ab.length + Z.length < 8796093022208 then (some ((ab ++ Z), G)) else (none))) else (none)))) else (none))) else (none)) else (none)))
def spec_l2PutNode.f (k : Nat) (s : List (S55)) (y : List (S57)) (z : Int) (D : Int) : Option ((List (S55)) × (List (S57))) := spec_l2PutNode.l0 k 0 s y z D
def spec_l2PutNode.T2 : Bool × List (List Nat × List Nat) := (true, [([], []), ([], []), ([1], [1]), ([2], [2]), ([0, 3], [0, 3]), ([4], [4]), ([5], [5]), ([6, 5], [5, 6]), ([5], [5]), ([7, 8, 5], [5, 7, 8]), ([9, 5], [5, 9]), ([10, 5, 5], [5, 10]), ([5], [5]), ([12, 11, 5], [5, 12]), ([11, 13, 5], [5, 11, 13]), ([5, 14], [5, 14])])
def spec_l2PutNode.B2 : List Nat := [0, 0, 2, 6, 15, 31, 63, 127, 63, 511, 1023, 2047, 63, 8191, 16383, 32767]
theorem spec_l2PutNode.tab2 : rtab .any (opsOf Try.f36 2) = spec_l2PutNode.T2 := by kernel_rfl
theorem spec_l2PutNode.bits2 : waitsOk spec_l2PutNode.T2.2 spec_l2PutNode.B2 = true := by kernel_rfl
def spec_l2PutNode.T5 : Bool × List (List Nat × List Nat) := (true, [([], []), ([0], [0]), ([], []), ([1, 2], [1, 2]), ([], []), ([4], [4]), ([3, 5], [3, 5]), ([], []), ([6, 7, 6], [6, 7]), ([0, 1, 2, 3, 4, 5, 6, 7, 8], []), ([9, 8, 8, 0, 1, 2, 3, 4, 5, 6, 7, 8], [8, 9])])
def spec_l2PutNode.B5 : List Nat := [0, 1, 0, 7, 0, 16, 63, 0, 255, 511, 1023]
theorem spec_l2PutNode.tab5 : rtab .any (opsOf Try.f36 5) = spec_l2PutNode.T5 := by kernel_rfl
theorem spec_l2PutNode.bits5 : waitsOk spec_l2PutNode.T5.2 spec_l2PutNode.B5 = true := by kernel_rfl
theorem spec_l2PutNode.calls (k : Nat) (L : Nat → Prop) (bH : Value) (D : List (S55)) (O : Nat → Prop) (bI : Value) (aa : List (S57)) (T : Int) (X : Int) (r1 : List (S55)) (r2 : List (S57)) (w0 w : World) (hB : Below w0.heap.size w0 w) (cO : Kd.R k55 55 w w0.heap.size L bH D) (cP : Kd.R k57 57 w w0.heap.size O bI aa) (h : spec_l2PutNode.f k D aa T X = some (r1, r2)) :
  Calls Try.prog 36 #[.agg #[bH, bI], .agg #[.int .i64 T, .int .i64 X]] w fun e w' => ∃ b8 b9 : Value, e = .returned (.agg #[b8, b9]) ∧ Kd.R k55 55 w' w0.heap.size (fun k_ => ((L k_ ∨ O k_) ∨ w.heap.size ≤ k_)) b8 r1 ∧ Kd.R k57 57 w' w0.heap.size (fun k_ => ((L k_ ∨ O k_) ∨ w.heap.size ≤ k_)) b9 r2 ∧ Below w0.heap.size w0 w' ∧ Kept w w' (fun k_ => L k_ ∨ O k_) := by
 have hu38 := Try.underlying38
 have hu55 := Try.underlying55
 have ax := am (show Kd.R k55 55 w w0.heap.size (fun k_ => ((L k_ ∨ O k_) ∨ w.heap.size ≤ k_)) bH D from Kd.R_mono cO (fun k_ hk => (.inl (.inl hk))))
 have ay := am (show Kd.R k57 57 w w0.heap.size (fun k_ => ((L k_ ∨ O k_) ∨ w.heap.size ≤ k_)) bI aa from Kd.R_mono cP (fun k_ hk => (.inl (.inr hk))))
 have HK := am (Kept.refl w (fun k_ => L k_ ∨ O k_))
 have dH := am hB.size
 have HB := am hB
 clear hB
 have H := h; unfold spec_l2PutNode.f at H
 clear h
 have H' := am H
 clear H
 obtain ⟨ap, ab, cQ⟩ := Kd.R_slice ax.out
 subst cQ
 obtain ⟨an, ao, cR⟩ := Kd.R_slice ay.out
 subst cR
 go_enter Try.func36, Try.ntmps36
 go_wp2_with (first | ((with_reducible refine gd 2 rfl ?_); refine bx 2 (cs := #[.slice ap D.length ab, .slice an aa.length ao]) (t := 38) ?_; intro ac hg w5 hbox hb; replace ax := rb ax hb; replace ay := rb ay hb; have s := am hbox; have dI := Ge.mk ((by rw [hg]; exact (by first | exact HK.out.1 | exact (show Kept w _ (fun k_ => L k_ ∨ O k_) from ts HK.out).1) : w.heap.size ≤ ac)); replace HK := kl HK hb; have dJ := gwb HB hg; replace HB := hs HB hb; clear hb hbox hg) | ((with_reducible refine gd 3 rfl ?_); refine bx 3 (cs := #[.int .i64 T, .int .i64 X]) (t := 55) ?_; intro Y hg w6 hbox hb; replace ax := am (Kd.R_below (Kd.R_elderB (rl ax.out) Y (Nat.le_of_eq hg.symm)) hb); replace ay := rb ay hb; have z := am hbox; have dK := Ge.mk ((by rw [hg]; exact (by first | exact HK.out.1 | exact (show Kept w _ (fun k_ => L k_ ∨ O k_) from ts HK.out).1) : w.heap.size ≤ Y)); replace HK := kl HK hb; have dL := gwb HB hg; replace HB := hs HB hb; have bm := nq s hg; have bn := nq' s hg; replace s := bb s hb rfl; clear hb hbox hg) | ((with_reducible refine gd 4 rfl ?_); refine bx 4 (cs := #[.slice none 0 0, .slice none 0 0]) (t := 38) ?_; intro aq hg w7 hbox hb; replace ax := rb ax hb; replace ay := rb ay hb; have I := am hbox; have dM := Ge.mk ((by rw [hg]; exact (by first | exact HK.out.1 | exact (show Kept w _ (fun k_ => L k_ ∨ O k_) from ts HK.out).1) : w.heap.size ≤ aq)); replace HK := kl HK hb; have dN := gwb HB hg; replace HB := hs HB hb; have bo := nq s hg; have br := nq' s hg; replace s := bb s hb rfl; have ce := nq z hg; have cf := nq' z hg; replace z := bb z hb rfl; clear hb hbox hg))
 go_loopg [5] k (fun kq v5 w' => ∃ (y : Int), v5 = .int .i64 y ∧ Aside0 (spec_l2PutNode.l0 kq y D aa T X = some (r1, r2)) ∧ Aside0 (kq ≤ k) ∧ Aside0 (Kd.R k55 55 w' w0.heap.size (fun k_ => ((L k_ ∨ O k_) ∨ w.heap.size ≤ k_) ∧ k_ ≠ Y) (.slice ap D.length ab) D) ∧ Aside0 (Kd.R k57 57 w' w0.heap.size (fun k_ => ((L k_ ∨ O k_) ∨ w.heap.size ≤ k_)) (.slice an aa.length ao) aa) ∧ Aside0 (w'.heap[ac]? = some (.cells #[(.slice ap D.length ab), (.slice an aa.length ao)] 38 (0, 0))) ∧ Aside0 (w'.heap[Y]? = some (.cells #[.int .i64 T, .int .i64 X] 55 (0, 0))) ∧ Aside0 (w'.heap[aq]? = some (.cells #[(.slice none 0 0), (.slice none 0 0)] 38 (0, 0))) ∧ Aside0 (Kept w w' (fun k_ => L k_ ∨ O k_)) ∧ Aside0 (Below w0.heap.size w0 w'))
 case atStart => exact ⟨(0), eqs, H', ⟨Nat.le_refl _⟩, ⟨rl ax.out⟩, ⟨rl ay.out⟩, ⟨bf s.out⟩, ⟨bf z.out⟩, ⟨bf I.out⟩, ⟨ts HK.out⟩, ⟨bs HB.out⟩⟩
 case round =>
  clear H'
  try clear p2
  try clear c3
  obtain ⟨y, rfl, HA, cg, J, Z, s, z, I, HK, HB⟩ := hrel
  cases gk with
  | zero => exact absurd HA.out (by simp [spec_l2PutNode.l0])
  | succ k1 =>
   have H := HA.out
   clear HA
   simp only [spec_l2PutNode.l0] at H
   by_cases c8 : y < (D.length : Int)
   ·rw [if_pos c8] at H
    have cS : decide (y < (D.length : Int)) = true := decide_eq_true c8
    clear c8
    by_cases c9 : 0 ≤ y
    ·rw [if_pos c9] at H
     have dO : decide (0 ≤ y) = true := decide_eq_true c9
     clear c9
     replace H := Option.bind_eq_some_iff.mp H
     obtain ⟨a6, ch, H⟩ := H
     try dsimp -simprocs only at H
     have ci := am ch
     clear ch
     replace H := Option.bind_eq_some_iff.mp H
     obtain ⟨a7, cj, H⟩ := H
     try dsimp -simprocs only at H
     have ck := am cj
     clear cj
     by_cases aV : a6 < a7
     ·rw [if_pos aV] at H
      have cT : decide (a6 < a7) = true := decide_eq_true aV
      clear aV
      have H' := am H
      clear H
      try go_wp2
      replace J := rd_ J
      replace Z := rd_ Z
      replace s := bd s
      replace z := bd z
      replace I := bd I
      replace HK := am (Kept.drew HK.out)
      replace HB := hd HB
      have aC : 0 ≤ (y : Int) := oda
      have aD : y < (D.length : Int) := oda
      obtain ⟨ad, bJ, a8, a9⟩ := at_T55 (Kd.R_reads' J.out).2.2 y aC aD
      cases bJ
      replace aC := eq_true aC
      replace aD := eq_true aD
      refine sta 16 (fun w' => w'.cell? ⟨ac, 0, none⟩ = some (.slice (some ad) D.length ab) ∧ w'.cell? ⟨ac, 1, none⟩ = some (.slice an aa.length ao) ∧ w'.cell? ⟨Y, 0, none⟩ = some (.int .i64 T) ∧ w'.cell? ⟨Y, 1, none⟩ = some (.int .i64 X) ∧ w'.cell? (ad.add ((y).toNat * 2)) = some (.int .i64 ((rd_T55 D y).f0)) ∧ w'.cell? ⟨(ad.add ((y).toNat * 2)).block, (ad.add ((y).toNat * 2)).off + 1, none⟩ = some (.int .i64 ((rd_T55 D y).f1))) [] ⟨cx s 0, cx s 1, cx z 0, cx z 1, a8, a9⟩ (fun hHeld => ?_); refine with_tabW spec_l2PutNode.tab2 spec_l2PutNode.bits2 (fun HT_ HW_ => ?_)
      generalize wr.drew = dP at J Z s z I HK HB a8 a9 hHeld ⊢
      refine pu 0 7 ?_
      refine pu 1 8 ?_
      refine tk 2 9 ?_
      refine pu 3 10 ?_
      refine pu 4 11 ?_
      refine pu 5 12 ?_
      refine pu 6 13 ?_
      refine pu 8 15 ?_
      refine tk 7 14 ?_
      refine pu 9 16 ?_
      refine tk 10 17 ?_
      refine tk 12 19 ?_
      refine on 11 18 (fun K hK => ?_)
      refine gs Try.func31 #[.agg #[.int .i64 ((rd_T55 D y).f0), .int .i64 ((rd_T55 D y).f1)]] ?_
      with_reducible refine (spec_l2Code.calls ((rd_T55 D y).f0) ((rd_T55 D y).f1) a6 _ ci.out).mono ?_
      rintro e dQ ⟨rfl, hb⟩
      have aE := cw hb hHeld.2.2.2.2.1
      have aG := cw hb hHeld.2.2.2.2.2
      refine ⟨_, rfl, ?_⟩
      replace J := rb J hb
      replace Z := rb Z hb
      replace s := bb s hb rfl
      replace z := bb z hb rfl
      replace I := bb I hb rfl
      replace HK := kl HK hb
      replace HB := hs HB hb
      (try clear hb)
      (try clear hb2)
      (try clear hk)
      (try clear hi)
      refine hK.out _ _ ⟨cx s 0, cx s 1, cx z 0, cx z 1, aE, aG⟩ (fun hHeld => ?_)
      clear hK K
      refine nrm 18 ?_
      refine on 13 20 (fun K hK => ?_)
      refine gs Try.func31 #[.agg #[.int .i64 T, .int .i64 X]] ?_
      with_reducible refine (spec_l2Code.calls T X a7 _ ck.out).mono ?_
      rintro e dR ⟨rfl, hb⟩
      have aE := cw hb hHeld.2.2.2.2.1
      have aG := cw hb hHeld.2.2.2.2.2
      refine ⟨_, rfl, ?_⟩
      replace J := rb J hb
      replace Z := rb Z hb
      replace s := bb s hb rfl
      replace z := bb z hb rfl
      replace I := bb I hb rfl
      replace HK := kl HK hb
      replace HB := hs HB hb
      (try clear hb)
      (try clear hb2)
      (try clear hk)
      (try clear hi)
      refine hK.out _ _ ⟨cx s 0, cx s 1, cx z 0, cx z 1, aE, aG⟩ (fun hHeld => ?_)
      clear hK K
      refine nrm 20 ?_
      refine pu 14 21 ?_
      refine pu 15 22 ?_
      refine dn ?_
      try go_wp2
      go_roundg k1
      case measure => have := cg.out; omega
      case rel => exact ⟨(wrap64 (y + 1)), eqs, H', ⟨by have := cg.out; omega⟩, ⟨rl J.out⟩, ⟨rl Z.out⟩, ⟨bf s.out⟩, ⟨bf z.out⟩, ⟨bf I.out⟩, ⟨ts HK.out⟩, ⟨bs HB.out⟩⟩
     ·rw [if_neg aV] at H
      have cT : decide (a6 < a7) = false := decide_eq_false aV
      clear aV
      obtain ⟨aH, bK⟩ : ∃ y_ : List (S55), y_ = (([] : List (S55))) := ⟨_, rfl⟩
      replace H : (if y ≤ (D.length : Int) then ((some (D.drop (y : Int).toNat : List (S55))).bind fun ak => (if aH.length + ak.length < 8796093022208 then ((some (aH ++ ak : List (S55))).bind fun ag => ((some (D.take (y : Int).toNat : List (S55))).bind fun ah => (if ah.length < 8796093022208 then ((some (ah ++ [(⟨T, X⟩ : S55)] : List (S55))).bind fun ae => (if ae.length + ag.length < 8796093022208 then (some ((ae ++ ag), aa)) else (none))) else (none)))) else (none))) else (none)) = some (r1, r2) := by first | (rw [bK]; exact H) | exact H
      have cl := am bK
      clear bK
      have dS := eq_true (oda : 0 ≤ y)
      by_cases ba : y ≤ (D.length : Int)
      ·rw [if_pos ba] at H
       have dT := eq_true ba
       have dU : decide (y ≤ (D.length : Int)) = true := decide_eq_true ba
       clear ba
       obtain ⟨ak, bL⟩ : ∃ y_ : List (S55), y_ = (D.drop (y : Int).toNat) := ⟨_, rfl⟩
       replace H : (if aH.length + ak.length < 8796093022208 then ((some (aH ++ ak : List (S55))).bind fun ag => ((some (D.take (y : Int).toNat : List (S55))).bind fun ah => (if ah.length < 8796093022208 then ((some (ah ++ [(⟨T, X⟩ : S55)] : List (S55))).bind fun ae => (if ae.length + ag.length < 8796093022208 then (some ((ae ++ ag), aa)) else (none))) else (none)))) else (none)) = some (r1, r2) := by first | (rw [bL]; exact H) | exact H
       have bM := am bL
       clear bL
       by_cases bt : aH.length + ak.length < 8796093022208
       ·rw [if_pos bt] at H
        have cU := am bt
        clear bt
        obtain ⟨ag, bN⟩ : ∃ y_ : List (S55), y_ = (aH ++ ak) := ⟨_, rfl⟩
        replace H : ((some (D.take (y : Int).toNat : List (S55))).bind fun ah => (if ah.length < 8796093022208 then ((some (ah ++ [(⟨T, X⟩ : S55)] : List (S55))).bind fun ae => (if ae.length + ag.length < 8796093022208 then (some ((ae ++ ag), aa)) else (none))) else (none))) = some (r1, r2) := by first | (rw [bN]; exact H) | exact H
        have cV := am bN
        clear bN
        have dV := eq_true (oda : y ≤ (D.length : Int))
        obtain ⟨ah, bO⟩ : ∃ y_ : List (S55), y_ = (D.take (y : Int).toNat) := ⟨_, rfl⟩
        replace H : (if ah.length < 8796093022208 then ((some (ah ++ [(⟨T, X⟩ : S55)] : List (S55))).bind fun ae => (if ae.length + ag.length < 8796093022208 then (some ((ae ++ ag), aa)) else (none))) else (none)) = some (r1, r2) := by first | (rw [bO]; exact H) | exact H
        have cm := am bO
        clear bO
        by_cases bu : ah.length < 8796093022208
        ·rw [if_pos bu] at H
         have cW := am bu
         clear bu
         obtain ⟨ae, bP⟩ : ∃ y_ : List (S55), y_ = (ah ++ [(⟨T, X⟩ : S55)]) := ⟨_, rfl⟩
         replace H : (if ae.length + ag.length < 8796093022208 then (some ((ae ++ ag), aa)) else (none)) = some (r1, r2) := by first | (rw [bP]; exact H) | exact H
         have cX := am bP
         clear bP
         by_cases bv : ae.length + ag.length < 8796093022208
         ·rw [if_pos bv] at H
          have cY := am bv
          clear bv
          obtain ⟨aW, bQ⟩ : ∃ y_ : List (S55), y_ = (ae ++ ag) := ⟨_, rfl⟩
          replace H : (some (aW, aa)) = some (r1, r2) := by first | (rw [bQ]; exact H) | exact H
          have cZ := am bQ
          clear bQ
          simp only [Option.some.injEq, Prod.mk.injEq] at H
          obtain ⟨rfl, rfl⟩ := H
          try go_wp2
          replace J := rd_ J
          replace Z := rd_ Z
          replace s := bd s
          replace z := bd z
          replace I := bd I
          replace HK := am (Kept.drew HK.out)
          replace HB := hd HB
          have aC : 0 ≤ (y : Int) := oda
          have aD : y < (D.length : Int) := oda
          obtain ⟨ad, bJ, a8, a9⟩ := at_T55 (Kd.R_reads' J.out).2.2 y aC aD
          cases bJ
          replace aC := eq_true aC
          replace aD := eq_true aD
          refine sta 16 (fun w' => w'.cell? ⟨ac, 0, none⟩ = some (.slice (some ad) D.length ab) ∧ w'.cell? ⟨ac, 1, none⟩ = some (.slice an aa.length ao) ∧ w'.cell? ⟨Y, 0, none⟩ = some (.int .i64 T) ∧ w'.cell? ⟨Y, 1, none⟩ = some (.int .i64 X) ∧ w'.cell? (ad.add ((y).toNat * 2)) = some (.int .i64 ((rd_T55 D y).f0)) ∧ w'.cell? ⟨(ad.add ((y).toNat * 2)).block, (ad.add ((y).toNat * 2)).off + 1, none⟩ = some (.int .i64 ((rd_T55 D y).f1))) [] ⟨cx s 0, cx s 1, cx z 0, cx z 1, a8, a9⟩ (fun hHeld => ?_); refine with_tabW spec_l2PutNode.tab2 spec_l2PutNode.bits2 (fun HT_ HW_ => ?_)
          generalize wr.drew = dW at J Z s z I HK HB a8 a9 hHeld ⊢
          refine pu 0 7 ?_
          refine pu 1 8 ?_
          refine tk 2 9 ?_
          refine pu 3 10 ?_
          refine pu 4 11 ?_
          refine pu 5 12 ?_
          refine pu 6 13 ?_
          refine pu 8 15 ?_
          refine tk 7 14 ?_
          refine pu 9 16 ?_
          refine tk 10 17 ?_
          refine tk 12 19 ?_
          refine on 11 18 (fun K hK => ?_)
          refine gs Try.func31 #[.agg #[.int .i64 ((rd_T55 D y).f0), .int .i64 ((rd_T55 D y).f1)]] ?_
          with_reducible refine (spec_l2Code.calls ((rd_T55 D y).f0) ((rd_T55 D y).f1) a6 _ ci.out).mono ?_
          rintro e dX ⟨rfl, hb⟩
          have aE := cw hb hHeld.2.2.2.2.1
          have aG := cw hb hHeld.2.2.2.2.2
          refine ⟨_, rfl, ?_⟩
          replace J := rb J hb
          replace Z := rb Z hb
          replace s := bb s hb rfl
          replace z := bb z hb rfl
          replace I := bb I hb rfl
          replace HK := kl HK hb
          replace HB := hs HB hb
          (try clear hb)
          (try clear hb2)
          (try clear hk)
          (try clear hi)
          refine hK.out _ _ ⟨cx s 0, cx s 1, cx z 0, cx z 1, aE, aG⟩ (fun hHeld => ?_)
          clear hK K
          refine nrm 18 ?_
          refine on 13 20 (fun K hK => ?_)
          refine gs Try.func31 #[.agg #[.int .i64 T, .int .i64 X]] ?_
          with_reducible refine (spec_l2Code.calls T X a7 _ ck.out).mono ?_
          rintro e dY ⟨rfl, hb⟩
          have aE := cw hb hHeld.2.2.2.2.1
          have aG := cw hb hHeld.2.2.2.2.2
          refine ⟨_, rfl, ?_⟩
          replace J := rb J hb
          replace Z := rb Z hb
          replace s := bb s hb rfl
          replace z := bb z hb rfl
          replace I := bb I hb rfl
          replace HK := kl HK hb
          replace HB := hs HB hb
          (try clear hb)
          (try clear hb2)
          (try clear hk)
          (try clear hi)
          refine hK.out _ _ ⟨cx s 0, cx s 1, cx z 0, cx z 1, aE, aG⟩ (fun hHeld => ?_)
          clear hK K
          refine nrm 20 ?_
          refine pu 14 21 ?_
          refine pu 15 22 ?_
          refine dn ?_
          try go_wp2_with (first | ((with_reducible refine gd 25 rfl ?_); refine Kd.R_lit k55 _ 55 ?hg (N := 25) ?hd (xs := ([] : List (S55))) (inner := []) (ok := fun _ => True) (okp := fun _ => True) ?hr ?hp (fun _ hk => hk) trivial (Below.refl _ _) (Nat.le_refl _) (by simp) ?_; (case hd => rfl); (case hg => rfl); (case hr => first | (go_simp; done) | (go_simp; rfl)); (case hp => exact (Reps.none _ _)); intro c0 c2 aX hb hg_ hnew_; clear hg_ hnew_; (first | rw [← cl.out] at aX | (simp only [Int.reduceToNat] at aX; rw [← cl.out] at aX)); replace Z := rb Z hb; have aI := am (Kd.R_lower (Kd.R_newB (Kd.R_new' (Kd.R_newM (M := fun k_ => ((L k_ ∨ O k_) ∨ w.heap.size ≤ k_)) aX (by first | exact HK.out.1 | exact (show Kept w _ (fun k_ => L k_ ∨ O k_) from ts HK.out).1) (fun k_ h_ => .inr h_)) (rk J)) (g := Y) (o := .cells #[.int .i64 T, .int .i64 X] 55 (0, 0)) (bf z.out)) (below_size (bs HB.out))); replace J := re J aX hb; replace s := bb s hb rfl; replace z := bb z hb rfl; replace I := bb I hb rfl; replace HK := kl HK hb; replace HB := hs HB hb; clear hb aX; have dZ := bm.out; have d0 := bn.out; have d1 := bo.out; have d2 := br.out; obtain ⟨d3, d4⟩ := bc2 (w := c2) s.out; have d5 := blk_frozen s.out; have bR : (y : Int) ≤ ((D.length : Int) : Int) := oda; obtain ⟨d6, cn, _, co, _⟩ := info_parts info55; have bS : D.length ≤ ab := (Kd.R_reads' J.out).2.1; have cp : Kd.C k55 _ (some ad) D.length D := (Kd.R_reads' J.out).2.2; have da : (0 : Int) ≤ (y : Int) := oda; have db := cut_from (P := Try.prog) 35 55 .i64 Try.underlying35 cn 2 co (some ad) D.length ab y da bR; have bc := Kd.C_drop (m := (y : Int).toNat) (c := ab) cp (by omega) bS; obtain ⟨ct, bw⟩ : ∃ A1, A1 = (if ab = (y : Int).toNat then (some ad) else ((some ad) : Option Addr).map (·.add ((y : Int).toNat * 2))) := ⟨_, rfl⟩; obtain ⟨dc, bT⟩ : ∃ c1, c1 = ab - (y : Int).toNat := ⟨_, rfl⟩; have bz : ak.length = D.length - (y : Int).toNat := (by rw [bM.out, List.length_drop] <;> omega); rw [show (D).drop (y : Int).toNat = ak from bM.out.symm] at bc; replace bc : Kd.C k55 _ ct ak.length ak := (by rw [bw]; exact bc); rw [← bz, ← bw, ← bT] at db; have aY := am bc; have d7 := am (show ak.length ≤ dc from by rw [bz, bT]; exact Nat.sub_le_sub_right bS _); clear bc cp bS cn co bT; have d8 := am bz; have dd := am bw; clear bz bw; have de := am (show (y : Int).toNat ≤ D.length from by omega); replace bR := eq_true bR) | ((with_reducible refine gate_builtin (b := .append) (xs := #[.tmp 25, .tmp 29]) rfl ?_); at_builtin; refine Kd.R_append_rows k55 (w0 := w0) w0.heap.size rfl (.tmp 25) (.tmp 29) 35 55 (.agg #[(.int .i64 0), (.int .i64 0)]) 16 rfl Try.underlying35 info55 rfl (by decide) (by omega) c0 aH ak _ _ _ (fun k_ => ((L k_ ∨ O k_) ∨ w.heap.size ≤ k_) ∧ some k_ ≠ (.slice (some ad) D.length ab : Value).ownBlock ∧ k_ ≠ Y) (fun _ => False) rfl rfl ?aO ?aR (fun _ _ h => h) (fun _ h => h.elim) ?aF ?aB ?aS ?aL ?_; (case aR => repeat (first | exact (by repeat (first | (with_reducible exact aY.out) | (with_reducible refine Kd.C_alloc ?_ _) | (with_reducible refine Kd.C_drewN ?_ _) | (with_reducible refine Kd.C_drew ?_) | exact aY.out)) | (with_reducible refine Kd.C_alloc ?_ _) | (with_reducible refine Kd.C_drewN ?_ _) | (with_reducible refine Kd.C_drew ?_))); (case aB => exact (bs HB.out)); (case aF => exact (fun k_ hk => ⟨(.inr (Nat.le_trans (by first | exact HK.out.1 | exact (show Kept w _ (fun k_ => L k_ ∨ O k_) from ts HK.out).1) hk)), Kd.fresh' (rk J) k_ hk, Kd.freshB (g := Y) (o := .cells #[.int .i64 T, .int .i64 X] 55 (0, 0)) (bf z.out) k_ hk⟩)); (case aO => exact (by (with_reducible repeat (first | apply Kd.R_alloc | apply Kd.R_drewN | apply Kd.R_drew)); exact Kd.R_mono aI.out (fun _ hk => ⟨hk.1.1.1, ⟨hk.1.2, hk.2⟩⟩))); (case aS => exact (below_size (bs HB.out))); (case aL => have := cU.out; omega); intro df cu ho hb hg hat; rw [← cV.out] at ho; replace Z := am (Kd.R_over' (rl Z.out) (Kd.R_typed (rl aI.out)) (by decide) hg); replace s := gr s aI hg; replace z := am (blk_grown (g := Y) (o := .cells #[.int .i64 T, .int .i64 X] 55 (0, 0)) (bf z.out) hg (Kd.R_away aI.out (fun _ hk => hk.2))); replace I := gr I aI hg; replace HB := am hb; replace HK := am (Kept.of_grown (S := (fun k_ => L k_ ∨ O k_)) hg (ts HK.out) (fun k_ e_ => (aI.out.1 k_ e_).1.1.1)); replace aY := am ((show Kd.C k55 cu ct ak.length ak from by rw [bM.out, dd.out]; exact Kd.C_drop (m := (y : Int).toNat) (c := ab) ((Kd.R_reads' (Kd.R_after (ok := (fun k_ => ((L k_ ∨ O k_) ∨ w.heap.size ≤ k_) ∧ k_ ≠ Y)) (rl J.out) hg hat)).2.2) de.out ((Kd.R_reads' (Kd.R_after (ok := (fun k_ => ((L k_ ∨ O k_) ∨ w.heap.size ≤ k_) ∧ k_ ≠ Y)) (rl J.out) hg hat)).2.1))); replace J := am (Kd.R_after (ok := (fun k_ => ((L k_ ∨ O k_) ∨ w.heap.size ≤ k_) ∧ k_ ≠ Y)) (rl J.out) hg hat); have ar := am ho; clear aI; clear ho hb hg hat))
          replace J := rd_ J
          replace Z := rd_ Z
          replace ar := rd_ ar
          replace s := bd s
          replace z := bd z
          replace I := bd I
          replace aY := am (Kd.C_drew aY.out)
          replace HK := am (Kept.drew HK.out)
          replace HB := hd HB
          have bU : (y : Int) ≤ ((D.length : Int) : Int) := oda
          obtain ⟨d9, cv, _, dg, _⟩ := info_parts info55
          have dh := cut_to (P := Try.prog) 35 55 .i64 Try.underlying35 cv (some ad) D.length ab y (oda) bU (Kd.R_reads' J.out).2.1
          have bA := Kd.R_take (m := (y : Int).toNat) J.out (by omega)
          have cy : ah.length = (y : Int).toNat := (by rw [cm.out, List.length_take]; omega)
          rw [← cm.out] at bA
          rw [← cy] at bA dh
          clear cy cv dg J
          have az := am bA
          clear bA
          replace bU := eq_true bU
          refine sta 11 (fun w' => w'.cell? ⟨ac, 0, none⟩ = some (.slice (some ad) D.length ab) ∧ w'.cell? ⟨ac, 1, none⟩ = some (.slice an aa.length ao) ∧ w'.cell? ⟨Y, 0, none⟩ = some (.int .i64 T) ∧ w'.cell? ⟨Y, 1, none⟩ = some (.int .i64 X)) [10] ⟨cx s 0, cx s 1, cx z 0, cx z 1⟩ (fun hHeld => ?_); refine with_tabW spec_l2PutNode.tab5 spec_l2PutNode.bits5 (fun HT_ HW_ => ?_)
          generalize cu.drew = ea at Z ar s z I aY HK HB az hHeld ⊢
          refine pu 0 31 ?_
          refine pu 2 33 ?_
          refine pu 7 38 ?_
          refine tk 1 32 ?_
          refine pu 3 34 ?_
          refine tk 4 35 ?_
          refine on 5 36 (fun K hK => ?_)
          refine va ?_
          refine hK.out _ _ ⟨cx s 0, cx s 1, cx z 0, cx z 1⟩ (fun hHeld => ?_)
          clear hK K
          refine nrm 36 ?_
          refine on 6 37 (fun K hK => ?_)
          refine Kd.R_append_step k55 (w0 := w0) w0.heap.size (by rfl) (.tmp 34) (.tmp 36) 35 55 (.agg #[(.int .i64 0), (.int .i64 0)]) 16 rfl Try.underlying35 info55 rfl (by decide) (by omega) (.slice (some ad) ah.length ab) ah (⟨T, X⟩ : S55) [.int .i64 T, .int .i64 X] (fun k_ => ((L k_ ∨ O k_) ∨ w.heap.size ≤ k_) ∧ some k_ ≠ (df : Value).ownBlock ∧ k_ ≠ Y) (fun _ => False) rfl rfl ?aP (fun _ hk => hk.elim) ?aF ?aO ?aB ?aS ?aL ?_
          (case aP => exact k55_mkM _ _ _ (⟨T, X⟩ : S55))
          (case aB => exact (bs HB.out))
          (case aF => exact (fun k_ hk => ⟨(.inr (Nat.le_trans (by first | exact HK.out.1 | exact (show Kept w _ (fun k_ => L k_ ∨ O k_) from ts HK.out).1) hk)), Kd.fresh' (rk ar) k_ hk, Kd.freshB (g := Y) (o := .cells #[.int .i64 T, .int .i64 X] 55 (0, 0)) (bf z.out) k_ hk⟩))
          (case aO => exact (by (with_reducible repeat (first | apply Kd.R_alloc | apply Kd.R_drewN | apply Kd.R_drew)); exact Kd.R_mono az.out (fun _ hk => ⟨hk.1.1, ⟨hk.2, hk.1.2⟩⟩)))
          (case aS => exact (below_size (bs HB.out)))
          (case aL => have := cW.out; omega)
          intro di eb ho hb hg hat
          rw [← cX.out] at ho
          replace Z := am (Kd.R_over' (rl Z.out) (Kd.R_typed (rl az.out)) (by decide) hg)
          replace s := gr s az hg
          replace z := am (blk_grown (g := Y) (o := .cells #[.int .i64 T, .int .i64 X] 55 (0, 0)) (bf z.out) hg (Kd.R_away az.out (fun _ hk => hk.1.2)))
          replace I := gr I az hg
          replace ar := am (Kd.R_after (ok := (fun k_ => ((L k_ ∨ O k_) ∨ w.heap.size ≤ k_) ∧ k_ ≠ Y)) (by (with_reducible repeat (first | apply Kd.R_alloc | apply Kd.R_drewN | apply Kd.R_drew)); exact Kd.R_mono ar.out (fun _ hk => ⟨⟨hk.1, hk.2.2⟩, fun e_ => hk.2.1 (e_.trans ob)⟩)) hg hat)
          replace HB := am hb
          replace HK := am (Kept.of_grown (S := (fun k_ => L k_ ∨ O k_)) hg (ts HK.out) (fun k_ e_ => (az.out.1 k_ e_).1.1))
          have aJ := am ho
          clear az
          clear ho hb hg hat
          obtain ⟨dj, dk, cz⟩ := Kd.R_slice ar.out
          (first | subst cz | (injection cz with au aK av; have aM := au.symm; have aN := av.symm; clear au aK av; subst aM; subst aN))
          refine hK.out _ _ ⟨cx s 0, cx s 1, cx z 0, cx z 1⟩ (fun hHeld => ?_)
          clear hK K
          refine nrm 37 ?_
          refine on 8 39 (fun K hK => ?_)
          refine Kd.R_append_rows_step k55 (w0 := w0) w0.heap.size (by rfl) (.tmp 37) (.tmp 38) 35 55 (.agg #[(.int .i64 0), (.int .i64 0)]) 16 rfl Try.underlying35 info55 rfl (by decide) (by omega) di ae ag _ _ _ (fun k_ => ((L k_ ∨ O k_) ∨ w.heap.size ≤ k_) ∧ some k_ ≠ (.slice dj ag.length dk : Value).ownBlock ∧ k_ ≠ Y) (fun _ => False) rfl rfl ?aO ?aR (fun _ _ h => h) (fun _ h => h.elim) ?aF ?aB ?aS ?aL ?_
          (case aR => exact cr ar)
          (case aB => exact (bs HB.out))
          (case aF => exact (fun k_ hk => ⟨(.inr (Nat.le_trans (by first | exact HK.out.1 | exact (show Kept w _ (fun k_ => L k_ ∨ O k_) from ts HK.out).1) hk)), Kd.fresh' (rk ar) k_ hk, Kd.freshB (g := Y) (o := .cells #[.int .i64 T, .int .i64 X] 55 (0, 0)) (bf z.out) k_ hk⟩))
          (case aO => exact (rl aJ.out))
          (case aS => exact (below_size (bs HB.out)))
          (case aL => have := cY.out; omega)
          intro ec bV ho hb hg hat
          rw [← cZ.out] at ho
          replace Z := am (Kd.R_over' (rl Z.out) (Kd.R_typed (rl aJ.out)) (by decide) hg)
          replace s := gr s aJ hg
          replace z := am (blk_grown (g := Y) (o := .cells #[.int .i64 T, .int .i64 X] 55 (0, 0)) (bf z.out) hg (Kd.R_away aJ.out (fun _ hk => hk.2.2)))
          replace I := gr I aJ hg
          replace ar := am (Kd.R_after (ok := (fun k_ => ((L k_ ∨ O k_) ∨ w.heap.size ≤ k_) ∧ k_ ≠ Y)) (rl ar.out) hg hat)
          replace HB := am hb
          replace HK := am (Kept.of_grown (S := (fun k_ => L k_ ∨ O k_)) hg (ts HK.out) (fun k_ e_ => (aJ.out.1 k_ e_).1))
          have cA := am ho
          clear aJ
          clear ho hb hg hat
          obtain ⟨be, bg, cB⟩ := Kd.R_slice cA.out
          (first | subst cB | (injection cB with au aK av; have aM := au.symm; have aN := av.symm; clear au aK av; subst aM; subst aN))
          refine hK.out _ _ ⟨cx s 0, cx s 1, cx z 0, cx z 1⟩ (fun hHeld => ?_)
          clear hK K
          refine nrm 39 ?_
          refine pu 9 40 ?_
          refine la0 10 (fun K hK => ?_)
          have ed : bV.cell? ⟨ac, 0, none⟩ = some (.slice (some ad) D.length ab) := cx s 0
          have ee := blk_frozen s.out 0
          have ef := bn.out
          have eg := br.out
          have eh := bm.out
          have ei := bo.out
          refine sk ?_
          refine hK.out _ _ ?_
          clear hK K
          refine dn ?_
          obtain ⟨ej, ek⟩ := bc2 (w := bV) s.out
          have el := blk_frozen s.out
          have em := cf.out
          have en := ce.out
          obtain ⟨eo, ep⟩ := bc2 (w := bV) I.out
          have eq := blk_frozen I.out
          try go_wp2
          refine bodyPost_ret (results_cell_row rfl _ _ aq 38 #[.slice be aW.length bg, .slice an aa.length ao] (0, 0) _ rfl (bp I.out rfl) Try.underlying38 rfl (by kernel_rfl)) rfl ?_
          exact ⟨_, _, eqr, by (with_reducible repeat (first | apply Kd.R_alloc | apply Kd.R_drewN | apply Kd.R_drew)); exact Kd.R_mono (Kd.R_far (p := ⟨aq, 1, none⟩) (Kd.R_far (p := ⟨aq, 0, none⟩) (Kd.R_far (p := ⟨ac, 0, none⟩) (Kd.R_types (Kd.R_types cA.out s.out (by decide)) I.out (by decide)) (fun _ hk => hk.1.2) (.slice be aW.length bg)) (fun _ hk => hk.2) (.slice be aW.length bg)) (fun _ hk => hk.2) (.slice an aa.length ao)) (fun _ hk => hk.1.1.1), by (with_reducible repeat (first | apply Kd.R_alloc | apply Kd.R_drewN | apply Kd.R_drew)); exact Kd.R_mono (Kd.R_far (p := ⟨aq, 1, none⟩) (Kd.R_far (p := ⟨aq, 0, none⟩) (Kd.R_far (p := ⟨ac, 0, none⟩) (Kd.R_types (Kd.R_types Z.out s.out (by decide)) I.out (by decide)) (fun _ hk => hk.1.2) (.slice be aW.length bg)) (fun _ hk => hk.2) (.slice be aW.length bg)) (fun _ hk => hk.2) (.slice an aa.length ao)) (fun _ hk => hk.1.1), bs HB.out, ts HK.out⟩
         ·rw [if_neg bv] at H
          exact absurd H (by simp)
        ·rw [if_neg bu] at H
         exact absurd H (by simp)
       ·rw [if_neg bt] at H
        exact absurd H (by simp)
      ·rw [if_neg ba] at H
       exact absurd H (by simp)
    ·rw [if_neg c9] at H
     exact absurd H (by simp)
   ·rw [if_neg c8] at H
    have cS : decide (y < (D.length : Int)) = false := decide_eq_false c8
    clear c8
    obtain ⟨aQ, bW⟩ : ∃ y_ : List (S55), y_ = (([] : List (S55))) := ⟨_, rfl⟩
    replace H : (if 0 ≤ y then (if y ≤ (D.length : Int) then ((some (D.drop (y : Int).toNat : List (S55))).bind fun al => (if aQ.length + al.length < 8796093022208 then ((some (aQ ++ al : List (S55))).bind fun ai => ((some (D.take (y : Int).toNat : List (S55))).bind fun aj => (if aj.length < 8796093022208 then ((some (aj ++ [(⟨T, X⟩ : S55)] : List (S55))).bind fun af => (if af.length + ai.length < 8796093022208 then (some ((af ++ ai), aa)) else (none))) else (none)))) else (none))) else (none)) else (none)) = some (r1, r2) := by first | (rw [bW]; exact H) | exact H
    have cC := am bW
    clear bW
    by_cases bh : 0 ≤ y
    ·rw [if_pos bh] at H
     have er := eq_true bh
     have es : decide (0 ≤ y) = true := decide_eq_true bh
     clear bh
     by_cases bi : y ≤ (D.length : Int)
     ·rw [if_pos bi] at H
      have et := eq_true bi
      have eu : decide (y ≤ (D.length : Int)) = true := decide_eq_true bi
      clear bi
      obtain ⟨al, bX⟩ : ∃ y_ : List (S55), y_ = (D.drop (y : Int).toNat) := ⟨_, rfl⟩
      replace H : (if aQ.length + al.length < 8796093022208 then ((some (aQ ++ al : List (S55))).bind fun ai => ((some (D.take (y : Int).toNat : List (S55))).bind fun aj => (if aj.length < 8796093022208 then ((some (aj ++ [(⟨T, X⟩ : S55)] : List (S55))).bind fun af => (if af.length + ai.length < 8796093022208 then (some ((af ++ ai), aa)) else (none))) else (none)))) else (none)) = some (r1, r2) := by first | (rw [bX]; exact H) | exact H
      have bY := am bX
      clear bX
      by_cases bB : aQ.length + al.length < 8796093022208
      ·rw [if_pos bB] at H
       have dl := am bB
       clear bB
       obtain ⟨ai, bZ⟩ : ∃ y_ : List (S55), y_ = (aQ ++ al) := ⟨_, rfl⟩
       replace H : ((some (D.take (y : Int).toNat : List (S55))).bind fun aj => (if aj.length < 8796093022208 then ((some (aj ++ [(⟨T, X⟩ : S55)] : List (S55))).bind fun af => (if af.length + ai.length < 8796093022208 then (some ((af ++ ai), aa)) else (none))) else (none))) = some (r1, r2) := by first | (rw [bZ]; exact H) | exact H
       have dm := am bZ
       clear bZ
       have ev := eq_true (oda : y ≤ (D.length : Int))
       obtain ⟨aj, b0⟩ : ∃ y_ : List (S55), y_ = (D.take (y : Int).toNat) := ⟨_, rfl⟩
       replace H : (if aj.length < 8796093022208 then ((some (aj ++ [(⟨T, X⟩ : S55)] : List (S55))).bind fun af => (if af.length + ai.length < 8796093022208 then (some ((af ++ ai), aa)) else (none))) else (none)) = some (r1, r2) := by first | (rw [b0]; exact H) | exact H
       have cD := am b0
       clear b0
       by_cases bC : aj.length < 8796093022208
       ·rw [if_pos bC] at H
        have dp := am bC
        clear bC
        obtain ⟨af, b1⟩ : ∃ y_ : List (S55), y_ = (aj ++ [(⟨T, X⟩ : S55)]) := ⟨_, rfl⟩
        replace H : (if af.length + ai.length < 8796093022208 then (some ((af ++ ai), aa)) else (none)) = some (r1, r2) := by first | (rw [b1]; exact H) | exact H
        have dq := am b1
        clear b1
        by_cases bD : af.length + ai.length < 8796093022208
        ·rw [if_pos bD] at H
         have dr := am bD
         clear bD
         obtain ⟨aZ, b2⟩ : ∃ y_ : List (S55), y_ = (af ++ ai) := ⟨_, rfl⟩
         replace H : (some (aZ, aa)) = some (r1, r2) := by first | (rw [b2]; exact H) | exact H
         have dt := am b2
         clear b2
         simp only [Option.some.injEq, Prod.mk.injEq] at H
         obtain ⟨rfl, rfl⟩ := H
         try go_wp2
         replace J := rd_ J
         replace Z := rd_ Z
         replace s := bd s
         replace z := bd z
         replace I := bd I
         replace HK := am (Kept.drew HK.out)
         replace HB := hd HB
         refine sta 16 (fun w' => w'.cell? ⟨ac, 0, none⟩ = some (.slice ap D.length ab) ∧ w'.cell? ⟨ac, 1, none⟩ = some (.slice an aa.length ao)) [] ⟨cx s 0, cx s 1⟩ (fun hHeld => ?_); refine with_tabW spec_l2PutNode.tab2 spec_l2PutNode.bits2 (fun HT_ HW_ => ?_)
         generalize wr.drew = ew at J Z s z I HK HB hHeld ⊢
         refine pu 0 7 ?_
         refine pu 1 8 ?_
         refine tk 2 9 ?_
         refine pu 3 10 ?_
         refine pu 4 11 ?_
         refine pu 5 12 ?_
         refine ud 6 13 ?_
         refine ud 7 14 ?_
         refine ud 8 15 ?_
         refine ud 9 16 ?_
         refine ud 10 17 ?_
         refine ud 11 18 ?_
         refine ud 12 19 ?_
         refine ud 13 20 ?_
         refine ud 14 21 ?_
         refine pu 15 22 ?_
         refine dn ?_
         try go_wp2_with (first | ((with_reducible refine gd 25 rfl ?_); refine Kd.R_lit k55 _ 55 ?hg (N := 25) ?hd (xs := ([] : List (S55))) (inner := []) (ok := fun _ => True) (okp := fun _ => True) ?hr ?hp (fun _ hk => hk) trivial (Below.refl _ _) (Nat.le_refl _) (by simp) ?_; (case hd => rfl); (case hg => rfl); (case hr => first | (go_simp; done) | (go_simp; rfl)); (case hp => exact (Reps.none _ _)); intro du dv a4 hb hg_ hnew_; clear hg_ hnew_; (first | rw [← cC.out] at a4 | (simp only [Int.reduceToNat] at a4; rw [← cC.out] at a4)); replace Z := rb Z hb; have aT := am (Kd.R_lower (Kd.R_newB (Kd.R_new' (Kd.R_newM (M := fun k_ => ((L k_ ∨ O k_) ∨ w.heap.size ≤ k_)) a4 (by first | exact HK.out.1 | exact (show Kept w _ (fun k_ => L k_ ∨ O k_) from ts HK.out).1) (fun k_ h_ => .inr h_)) (rk J)) (g := Y) (o := .cells #[.int .i64 T, .int .i64 X] 55 (0, 0)) (bf z.out)) (below_size (bs HB.out))); replace J := re J a4 hb; replace s := bb s hb rfl; replace z := bb z hb rfl; replace I := bb I hb rfl; replace HK := kl HK hb; replace HB := hs HB hb; clear hb a4; have ex := bm.out; have ey := bn.out; have ez := bo.out; have eA := br.out; obtain ⟨eB, eC⟩ := bc2 (w := dv) s.out; have eD := blk_frozen s.out; have b3 : (y : Int) ≤ ((D.length : Int) : Int) := oda; obtain ⟨eE, cE, _, cF, _⟩ := info_parts info55; have b4 : D.length ≤ ab := (Kd.R_reads' J.out).2.1; have cG : Kd.C k55 _ ap D.length D := (Kd.R_reads' J.out).2.2; have dw : (0 : Int) ≤ (y : Int) := oda; have dx := cut_from (P := Try.prog) 35 55 .i64 Try.underlying35 cE 2 cF ap D.length ab y dw b3; have bj := Kd.C_drop (m := (y : Int).toNat) (c := ab) cG (by omega) b4; obtain ⟨cH, bE⟩ : ∃ A1, A1 = (if ab = (y : Int).toNat then ap else (ap : Option Addr).map (·.add ((y : Int).toNat * 2))) := ⟨_, rfl⟩; obtain ⟨dy, b5⟩ : ∃ c1, c1 = ab - (y : Int).toNat := ⟨_, rfl⟩; have bF : al.length = D.length - (y : Int).toNat := (by rw [bY.out, List.length_drop] <;> omega); rw [show (D).drop (y : Int).toNat = al from bY.out.symm] at bj; replace bj : Kd.C k55 _ cH al.length al := (by rw [bE]; exact bj); rw [← bF, ← bE, ← b5] at dx; have a5 := am bj; have eF := am (show al.length ≤ dy from by rw [bF, b5]; exact Nat.sub_le_sub_right b4 _); clear bj cG b4 cE cF b5; have eG := am bF; have dz := am bE; clear bF bE; have dA := am (show (y : Int).toNat ≤ D.length from by omega); replace b3 := eq_true b3) | ((with_reducible refine gate_builtin (b := .append) (xs := #[.tmp 25, .tmp 29]) rfl ?_); at_builtin; refine Kd.R_append_rows k55 (w0 := w0) w0.heap.size rfl (.tmp 25) (.tmp 29) 35 55 (.agg #[(.int .i64 0), (.int .i64 0)]) 16 rfl Try.underlying35 info55 rfl (by decide) (by omega) du aQ al _ _ _ (fun k_ => ((L k_ ∨ O k_) ∨ w.heap.size ≤ k_) ∧ some k_ ≠ (.slice ap D.length ab : Value).ownBlock ∧ k_ ≠ Y) (fun _ => False) rfl rfl ?aO ?aR (fun _ _ h => h) (fun _ h => h.elim) ?aF ?aB ?aS ?aL ?_; (case aR => repeat (first | exact (by repeat (first | (with_reducible exact a5.out) | (with_reducible refine Kd.C_alloc ?_ _) | (with_reducible refine Kd.C_drewN ?_ _) | (with_reducible refine Kd.C_drew ?_) | exact a5.out)) | (with_reducible refine Kd.C_alloc ?_ _) | (with_reducible refine Kd.C_drewN ?_ _) | (with_reducible refine Kd.C_drew ?_))); (case aB => exact (bs HB.out)); (case aF => exact (fun k_ hk => ⟨(.inr (Nat.le_trans (by first | exact HK.out.1 | exact (show Kept w _ (fun k_ => L k_ ∨ O k_) from ts HK.out).1) hk)), Kd.fresh' (rk J) k_ hk, Kd.freshB (g := Y) (o := .cells #[.int .i64 T, .int .i64 X] 55 (0, 0)) (bf z.out) k_ hk⟩)); (case aO => exact (by (with_reducible repeat (first | apply Kd.R_alloc | apply Kd.R_drewN | apply Kd.R_drew)); exact Kd.R_mono aT.out (fun _ hk => ⟨hk.1.1.1, ⟨hk.1.2, hk.2⟩⟩))); (case aS => exact (below_size (bs HB.out))); (case aL => have := dl.out; omega); intro dB cI ho hb hg hat; rw [← dm.out] at ho; replace Z := am (Kd.R_over' (rl Z.out) (Kd.R_typed (rl aT.out)) (by decide) hg); replace s := gr s aT hg; replace z := am (blk_grown (g := Y) (o := .cells #[.int .i64 T, .int .i64 X] 55 (0, 0)) (bf z.out) hg (Kd.R_away aT.out (fun _ hk => hk.2))); replace I := gr I aT hg; replace HB := am hb; replace HK := am (Kept.of_grown (S := (fun k_ => L k_ ∨ O k_)) hg (ts HK.out) (fun k_ e_ => (aT.out.1 k_ e_).1.1.1)); replace a5 := am ((show Kd.C k55 cI cH al.length al from by rw [bY.out, dz.out]; exact Kd.C_drop (m := (y : Int).toNat) (c := ab) ((Kd.R_reads' (Kd.R_after (ok := (fun k_ => ((L k_ ∨ O k_) ∨ w.heap.size ≤ k_) ∧ k_ ≠ Y)) (rl J.out) hg hat)).2.2) dA.out ((Kd.R_reads' (Kd.R_after (ok := (fun k_ => ((L k_ ∨ O k_) ∨ w.heap.size ≤ k_) ∧ k_ ≠ Y)) (rl J.out) hg hat)).2.1))); replace J := am (Kd.R_after (ok := (fun k_ => ((L k_ ∨ O k_) ∨ w.heap.size ≤ k_) ∧ k_ ≠ Y)) (rl J.out) hg hat); have aw := am ho; clear aT; clear ho hb hg hat))
         replace J := rd_ J
         replace Z := rd_ Z
         replace aw := rd_ aw
         replace s := bd s
         replace z := bd z
         replace I := bd I
         replace a5 := am (Kd.C_drew a5.out)
         replace HK := am (Kept.drew HK.out)
         replace HB := hd HB
         have b6 : (y : Int) ≤ ((D.length : Int) : Int) := oda
         obtain ⟨eH, cJ, _, dC, _⟩ := info_parts info55
         have dD := cut_to (P := Try.prog) 35 55 .i64 Try.underlying35 cJ ap D.length ab y (oda) b6 (Kd.R_reads' J.out).2.1
         have bG := Kd.R_take (m := (y : Int).toNat) J.out (by omega)
         have cK : aj.length = (y : Int).toNat := (by rw [cD.out, List.length_take]; omega)
         rw [← cD.out] at bG
         rw [← cK] at bG dD
         clear cK cJ dC J
         have aA := am bG
         clear bG
         replace b6 := eq_true b6
         refine sta 11 (fun w' => w'.cell? ⟨ac, 0, none⟩ = some (.slice ap D.length ab) ∧ w'.cell? ⟨ac, 1, none⟩ = some (.slice an aa.length ao) ∧ w'.cell? ⟨Y, 0, none⟩ = some (.int .i64 T) ∧ w'.cell? ⟨Y, 1, none⟩ = some (.int .i64 X)) [10] ⟨cx s 0, cx s 1, cx z 0, cx z 1⟩ (fun hHeld => ?_); refine with_tabW spec_l2PutNode.tab5 spec_l2PutNode.bits5 (fun HT_ HW_ => ?_)
         generalize cI.drew = eI at Z aw s z I a5 HK HB aA hHeld ⊢
         refine pu 0 31 ?_
         refine pu 2 33 ?_
         refine pu 7 38 ?_
         refine tk 1 32 ?_
         refine pu 3 34 ?_
         refine tk 4 35 ?_
         refine on 5 36 (fun K hK => ?_)
         refine va ?_
         refine hK.out _ _ ⟨cx s 0, cx s 1, cx z 0, cx z 1⟩ (fun hHeld => ?_)
         clear hK K
         refine nrm 36 ?_
         refine on 6 37 (fun K hK => ?_)
         refine Kd.R_append_step k55 (w0 := w0) w0.heap.size (by rfl) (.tmp 34) (.tmp 36) 35 55 (.agg #[(.int .i64 0), (.int .i64 0)]) 16 rfl Try.underlying35 info55 rfl (by decide) (by omega) (.slice ap aj.length ab) aj (⟨T, X⟩ : S55) [.int .i64 T, .int .i64 X] (fun k_ => ((L k_ ∨ O k_) ∨ w.heap.size ≤ k_) ∧ some k_ ≠ (dB : Value).ownBlock ∧ k_ ≠ Y) (fun _ => False) rfl rfl ?aP (fun _ hk => hk.elim) ?aF ?aO ?aB ?aS ?aL ?_
         (case aP => exact k55_mkM _ _ _ (⟨T, X⟩ : S55))
         (case aB => exact (bs HB.out))
         (case aF => exact (fun k_ hk => ⟨(.inr (Nat.le_trans (by first | exact HK.out.1 | exact (show Kept w _ (fun k_ => L k_ ∨ O k_) from ts HK.out).1) hk)), Kd.fresh' (rk aw) k_ hk, Kd.freshB (g := Y) (o := .cells #[.int .i64 T, .int .i64 X] 55 (0, 0)) (bf z.out) k_ hk⟩))
         (case aO => exact (by (with_reducible repeat (first | apply Kd.R_alloc | apply Kd.R_drewN | apply Kd.R_drew)); exact Kd.R_mono aA.out (fun _ hk => ⟨hk.1.1, ⟨hk.2, hk.1.2⟩⟩)))
         (case aS => exact (below_size (bs HB.out)))
         (case aL => have := dp.out; omega)
         intro dE eJ ho hb hg hat
         rw [← dq.out] at ho
         replace Z := am (Kd.R_over' (rl Z.out) (Kd.R_typed (rl aA.out)) (by decide) hg)
         replace s := gr s aA hg
         replace z := am (blk_grown (g := Y) (o := .cells #[.int .i64 T, .int .i64 X] 55 (0, 0)) (bf z.out) hg (Kd.R_away aA.out (fun _ hk => hk.1.2)))
         replace I := gr I aA hg
         replace aw := am (Kd.R_after (ok := (fun k_ => ((L k_ ∨ O k_) ∨ w.heap.size ≤ k_) ∧ k_ ≠ Y)) (by (with_reducible repeat (first | apply Kd.R_alloc | apply Kd.R_drewN | apply Kd.R_drew)); exact Kd.R_mono aw.out (fun _ hk => ⟨⟨hk.1, hk.2.2⟩, fun e_ => hk.2.1 (e_.trans ob)⟩)) hg hat)
         replace HB := am hb
         replace HK := am (Kept.of_grown (S := (fun k_ => L k_ ∨ O k_)) hg (ts HK.out) (fun k_ e_ => (aA.out.1 k_ e_).1.1))
         have aU := am ho
         clear aA
         clear ho hb hg hat
         obtain ⟨dF, dG, cL⟩ := Kd.R_slice aw.out
         (first | subst cL | (injection cL with au aK av; have aM := au.symm; have aN := av.symm; clear au aK av; subst aM; subst aN))
         refine hK.out _ _ ⟨cx s 0, cx s 1, cx z 0, cx z 1⟩ (fun hHeld => ?_)
         clear hK K
         refine nrm 37 ?_
         refine on 8 39 (fun K hK => ?_)
         refine Kd.R_append_rows_step k55 (w0 := w0) w0.heap.size (by rfl) (.tmp 37) (.tmp 38) 35 55 (.agg #[(.int .i64 0), (.int .i64 0)]) 16 rfl Try.underlying35 info55 rfl (by decide) (by omega) dE af ai _ _ _ (fun k_ => ((L k_ ∨ O k_) ∨ w.heap.size ≤ k_) ∧ some k_ ≠ (.slice dF ai.length dG : Value).ownBlock ∧ k_ ≠ Y) (fun _ => False) rfl rfl ?aO ?aR (fun _ _ h => h) (fun _ h => h.elim) ?aF ?aB ?aS ?aL ?_
         (case aR => exact cr aw)
         (case aB => exact (bs HB.out))
         (case aF => exact (fun k_ hk => ⟨(.inr (Nat.le_trans (by first | exact HK.out.1 | exact (show Kept w _ (fun k_ => L k_ ∨ O k_) from ts HK.out).1) hk)), Kd.fresh' (rk aw) k_ hk, Kd.freshB (g := Y) (o := .cells #[.int .i64 T, .int .i64 X] 55 (0, 0)) (bf z.out) k_ hk⟩))
         (case aO => exact (rl aU.out))
         (case aS => exact (below_size (bs HB.out)))
         (case aL => have := dr.out; omega)
         intro eK b7 ho hb hg hat
         rw [← dt.out] at ho
         replace Z := am (Kd.R_over' (rl Z.out) (Kd.R_typed (rl aU.out)) (by decide) hg)
         replace s := gr s aU hg
         replace z := am (blk_grown (g := Y) (o := .cells #[.int .i64 T, .int .i64 X] 55 (0, 0)) (bf z.out) hg (Kd.R_away aU.out (fun _ hk => hk.2.2)))
         replace I := gr I aU hg
         replace aw := am (Kd.R_after (ok := (fun k_ => ((L k_ ∨ O k_) ∨ w.heap.size ≤ k_) ∧ k_ ≠ Y)) (rl aw.out) hg hat)
         replace HB := am hb
         replace HK := am (Kept.of_grown (S := (fun k_ => L k_ ∨ O k_)) hg (ts HK.out) (fun k_ e_ => (aU.out.1 k_ e_).1))
         have cM := am ho
         clear aU
         clear ho hb hg hat
         obtain ⟨bk, bl, cN⟩ := Kd.R_slice cM.out
         (first | subst cN | (injection cN with au aK av; have aM := au.symm; have aN := av.symm; clear au aK av; subst aM; subst aN))
         refine hK.out _ _ ⟨cx s 0, cx s 1, cx z 0, cx z 1⟩ (fun hHeld => ?_)
         clear hK K
         refine nrm 39 ?_
         refine pu 9 40 ?_
         refine la0 10 (fun K hK => ?_)
         have eL : b7.cell? ⟨ac, 0, none⟩ = some (.slice ap D.length ab) := cx s 0
         have eM := blk_frozen s.out 0
         have eN := bn.out
         have eO := br.out
         have eP := bm.out
         have eQ := bo.out
         refine sk ?_
         refine hK.out _ _ ?_
         clear hK K
         refine dn ?_
         obtain ⟨eR, eS⟩ := bc2 (w := b7) s.out
         have eT := blk_frozen s.out
         have eU := cf.out
         have eV := ce.out
         obtain ⟨eW, eX⟩ := bc2 (w := b7) I.out
         have eY := blk_frozen I.out
         try go_wp2
         refine bodyPost_ret (results_cell_row rfl _ _ aq 38 #[.slice bk aZ.length bl, .slice an aa.length ao] (0, 0) _ rfl (bp I.out rfl) Try.underlying38 rfl (by kernel_rfl)) rfl ?_
         exact ⟨_, _, eqr, by (with_reducible repeat (first | apply Kd.R_alloc | apply Kd.R_drewN | apply Kd.R_drew)); exact Kd.R_mono (Kd.R_far (p := ⟨aq, 1, none⟩) (Kd.R_far (p := ⟨aq, 0, none⟩) (Kd.R_far (p := ⟨ac, 0, none⟩) (Kd.R_types (Kd.R_types cM.out s.out (by decide)) I.out (by decide)) (fun _ hk => hk.1.2) (.slice bk aZ.length bl)) (fun _ hk => hk.2) (.slice bk aZ.length bl)) (fun _ hk => hk.2) (.slice an aa.length ao)) (fun _ hk => hk.1.1.1), by (with_reducible repeat (first | apply Kd.R_alloc | apply Kd.R_drewN | apply Kd.R_drew)); exact Kd.R_mono (Kd.R_far (p := ⟨aq, 1, none⟩) (Kd.R_far (p := ⟨aq, 0, none⟩) (Kd.R_far (p := ⟨ac, 0, none⟩) (Kd.R_types (Kd.R_types Z.out s.out (by decide)) I.out (by decide)) (fun _ hk => hk.1.2) (.slice bk aZ.length bl)) (fun _ hk => hk.2) (.slice bk aZ.length bl)) (fun _ hk => hk.2) (.slice an aa.length ao)) (fun _ hk => hk.1.1), bs HB.out, ts HK.out⟩
        ·rw [if_neg bD] at H
         exact absurd H (by simp)
       ·rw [if_neg bC] at H
        exact absurd H (by simp)
      ·rw [if_neg bB] at H
       exact absurd H (by simp)
     ·rw [if_neg bi] at H
      exact absurd H (by simp)
    ·rw [if_neg bh] at H
     exact absurd H (by simp)

/-! ### spec_l2At: function 43 -/
def spec_l2At.l0 : Nat → Int → List (S55) → List (S57) → Int → Int → Option (Int)
 | 0, _, _, _, _, _ => none
 | k + 1, s, y, G, z, D => if s < (y.length : Int) then (if 0 ≤ s then (if (((rd_T55 y s).f0) == z && (((rd_T55 y s).f1) == D)) = true then (some s) else (spec_l2At.l0 k (wrap64 (s + 1)) y G z D)) else (none)) else (some (-1))
def spec_l2At.f (k : Nat) (s : List (S55)) (y : List (S57)) (z : Int) (D : Int) : Option (Int) := spec_l2At.l0 k 0 s y z D
theorem spec_l2At.calls (k : Nat) (Y : Option Addr) (Z : Nat) (s : List (S55)) (aa : Option Addr) (ab : Nat) (L : List (S57)) (D : Int) (G : Int) (r : Int) (w : World) (aj : Kd.C k55 w Y s.length s) (ak : s.length ≤ Z) (al : Kd.C k57 w aa L.length L) (an : L.length ≤ ab) (h : spec_l2At.f k s L D G = some r) :
  Calls Try.prog 43 #[.agg #[.slice Y s.length Z, .slice aa L.length ab], .agg #[.int .i64 D, .int .i64 G]] w fun e w' => e = .returned (.int .i64 r) ∧ Below w.heap.size w w' := by
 have hu38 := Try.underlying38
 have hu55 := Try.underlying55
 have ao := am aj
 have az := am ak
 clear aj ak
 have aA := am al
 have aC := am an
 clear al an
 have HB := am (Below.refl w.heap.size w)
 have H := h; unfold spec_l2At.f at H
 clear h
 have H' := am H
 clear H
 go_enter Try.func43, Try.ntmps43
 go_wp2_with (first | ((with_reducible refine gd 2 rfl ?_); refine bx 2 (cs := #[.slice Y s.length Z, .slice aa L.length ab]) (t := 38) ?_; intro ag hg w3 hbox hb; have z := am hbox; have ap := gwb HB hg; replace HB := hs HB hb; clear hb hbox hg) | ((with_reducible refine gd 3 rfl ?_); refine bx 3 (cs := #[.int .i64 D, .int .i64 G]) (t := 55) ?_; intro ah hg w4 hbox hb; have O := am hbox; have aq := gwb HB hg; replace HB := hs HB hb; have ac := nq z hg; have ad := nq' z hg; replace z := bb z hb rfl; clear hb hbox hg))
 repeat (go_quiet (first | ((with_reducible refine gd 2 rfl ?_); refine bx 2 (cs := #[.slice Y s.length Z, .slice aa L.length ab]) (t := 38) ?_; intro ag hg w3 hbox hb; have z := am hbox; have ap := gwb HB hg; replace HB := hs HB hb; clear hb hbox hg) | ((with_reducible refine gd 3 rfl ?_); refine bx 3 (cs := #[.int .i64 D, .int .i64 G]) (t := 55) ?_; intro ah hg w4 hbox hb; have O := am hbox; have aq := gwb HB hg; replace HB := hs HB hb; have ac := nq z hg; have ad := nq' z hg; replace z := bb z hb rfl; clear hb hbox hg)); try go_wp2_with (first | ((with_reducible refine gd 2 rfl ?_); refine bx 2 (cs := #[.slice Y s.length Z, .slice aa L.length ab]) (t := 38) ?_; intro ag hg w3 hbox hb; have z := am hbox; have ap := gwb HB hg; replace HB := hs HB hb; clear hb hbox hg) | ((with_reducible refine gd 3 rfl ?_); refine bx 3 (cs := #[.int .i64 D, .int .i64 G]) (t := 55) ?_; intro ah hg w4 hbox hb; have O := am hbox; have aq := gwb HB hg; replace HB := hs HB hb; have ac := nq z hg; have ad := nq' z hg; replace z := bb z hb rfl; clear hb hbox hg)))
 go_loopg [5] k (fun kq v5 w' => ∃ (y : Int), v5 = .int .i64 y ∧ Aside0 (spec_l2At.l0 kq y s L D G = some r) ∧ Aside0 (kq ≤ k) ∧ Aside0 (w'.heap[ag]? = some (.cells #[(.slice Y s.length Z), (.slice aa L.length ab)] 38 (0, 0))) ∧ Aside0 (w'.heap[ah]? = some (.cells #[.int .i64 D, .int .i64 G] 55 (0, 0))) ∧ Aside0 (Below w.heap.size w w'))
 case atStart => exact ⟨(0), eqs, H', ⟨Nat.le_refl _⟩, ⟨bf z.out⟩, ⟨bf O.out⟩, ⟨bs HB.out⟩⟩
 case round =>
  clear H'
  try clear p2
  try clear c4
  obtain ⟨y, rfl, HA, ar, z, O, HB⟩ := hrel
  cases gk with
  | zero => exact absurd HA.out (by simp [spec_l2At.l0])
  | succ k1 =>
   have H := HA.out
   clear HA
   simp only [spec_l2At.l0] at H
   by_cases c5 : y < (s.length : Int)
   ·rw [if_pos c5] at H
    have au : decide (y < (s.length : Int)) = true := decide_eq_true c5
    clear c5
    by_cases c6 : 0 ≤ y
    ·rw [if_pos c6] at H
     have aD : decide (0 ≤ y) = true := decide_eq_true c6
     clear c6
     by_cases J : (((rd_T55 s y).f0) == D && (((rd_T55 s y).f1) == G)) = true
     ·rw [if_pos J] at H
      have av : (((rd_T55 s y).f0) == D && (((rd_T55 s y).f1) == G)) = true := J
      (try (have aw : decide (((rd_T55 s y).f0) = D && (((rd_T55 s y).f1) == G)) = true := by simpa using J))
      (try (have ax : (((rd_T55 s y).f0) == D && (((rd_T55 s y).f1) == G)) = true := by simpa using J))
      clear J
      obtain rfl := Option.some.inj H
      have aE := ac.out
      have aG := ad.out
      obtain ⟨aH, aI⟩ := bc2 (w := wr) z.out
      have aJ := blk_frozen z.out
      have T : 0 ≤ (y : Int) := oda
      have X : y < (s.length : Int) := oda
      obtain ⟨ay, ai, ae, af⟩ := at_T55 ao.out y T X
      cases ai
      replace ae := cb HB ae
      replace af := cb HB af
      replace T := eq_true T
      replace X := eq_true X
      obtain ⟨aK, aM⟩ := bc2 (w := wr) O.out
      have aN := blk_frozen O.out
      go_wp2
      repeat (go_quiet (fail); try go_wp2)
      go_ret
      exact ⟨eqr, bs HB.out⟩
     ·rw [if_neg J] at H
      have av : (((rd_T55 s y).f0) == D && (((rd_T55 s y).f1) == G)) = false := by simpa using J
      (try (have aw : decide (((rd_T55 s y).f0) = D && (((rd_T55 s y).f1) == G)) = false := by simpa using J))
      (try (have ax : (((rd_T55 s y).f0) == D && (((rd_T55 s y).f1) == G)) = false := by simpa using J))
      (try (have aQ : ¬ (((rd_T55 s y).f0) = D && (((rd_T55 s y).f1) == G)) := by simpa using J))
      clear J
      have H' := am H
      clear H
      have aT := ac.out
      have aU := ad.out
      obtain ⟨aV, aW⟩ := bc2 (w := wr) z.out
      have aX := blk_frozen z.out
      have T : 0 ≤ (y : Int) := oda
      have X : y < (s.length : Int) := oda
      obtain ⟨ay, ai, ae, af⟩ := at_T55 ao.out y T X
      cases ai
      replace ae := cb HB ae
      replace af := cb HB af
      replace T := eq_true T
      replace X := eq_true X
      obtain ⟨aY, aZ⟩ := bc2 (w := wr) O.out
      have a4 := blk_frozen O.out
      go_wp2
      repeat (go_quiet (fail); try go_wp2)
      go_roundg k1
      case measure => have := ar.out; omega
      case rel => exact ⟨(wrap64 (y + 1)), eqs, H', ⟨by have := ar.out; omega⟩, ⟨bf z.out⟩, ⟨bf O.out⟩, ⟨bs HB.out⟩⟩
    ·rw [if_neg c6] at H
     exact absurd H (by simp)
   ·rw [if_neg c5] at H
    have au : decide (y < (s.length : Int)) = false := decide_eq_false c5
    clear c5
    obtain rfl := Option.some.inj H
    have a5 := ac.out
    have a6 := ad.out
    obtain ⟨a7, a8⟩ := bc2 (w := wr) z.out
    have a9 := blk_frozen z.out
    go_wp2
    repeat (go_quiet (fail); try go_wp2)
    go_ret
    exact ⟨eqr, bs HB.out⟩

end Go.Proofs.Ytkbamcicbofjbaa.QFnStoreNarrow
