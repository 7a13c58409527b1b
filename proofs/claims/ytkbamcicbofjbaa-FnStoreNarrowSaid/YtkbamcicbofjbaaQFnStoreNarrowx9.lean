/- Contracts of the Go functions that this law reaches: each does what its plain Lean function says. No condition. -/
import Derived.Test.YtkbamcicbofjbaaQFnStoreNarrowx0
import Derived.Test.YtkbamcicbofjbaaQFnStoreNarrowx5
import Derived.Test.YtkbamcicbofjbaaQFnStoreNarrowx7
import Derived.Test.YtkbamcicbofjbaaQFnStoreNarrowx8
namespace Go.Proofs.Ytkbamcicbofjbaa.QFnStoreNarrow
open Go.RowKit Go.Proofs.YtkbamcicbofjbaaW.PrintWords Go.Proofs.YtkbamcicbofjbaaW.PrintLast Go.Proofs.YtkbamcicbofjbaaW.PrintMore Go.Proofs.Ytkbamcicbofjbaa.Bl
attribute [local go_sem] max2_int min2_int max_two min_two max_three min_three max_four min_four   -- for this text's walks alone
set_option linter.unusedVariables false
set_option linter.unusedSimpArgs false
set_option maxHeartbeats 8000000
set_option maxRecDepth 100000

/-! ### spec_l4Seg: function 21 -/
mutual
def spec_l4Seg.l0 : Nat → Int → List Int → Int → List (S55) → List (S57) → Option (ByteArray)
 | 0, _, _, _, _, _ => none
 | k + 1, D, z, s, y, I => if s < (y.length : Int) then (if 0 ≤ s then (if ((rd_T55 y s).f0) = D then (if z.length < 17592186044416 then (spec_l4Seg.l0 k D (z ++ [(rd_T55 y s).f1]) (wrap64 (s + 1)) y I) else (none)) else (spec_l4Seg.l0 k D z (wrap64 (s + 1)) y I)) else (none)) else ((spec_l4Only.f k y I D).bind fun G => (if (wrap64 ((z.length : Int) + (G.1.length : Int))) = 0 then (some (⟨#[]⟩ : ByteArray)) else ((spec_PackRow.f k z).bind fun J => ((spec_PackNum.f k (G.1.length : Int)).bind fun L => (if J.size + L.size ≤ 9223372036854775807 then (spec_l4Seg.l1 k (J ++ L) 0 G.1 G.2) else (none))))))
def spec_l4Seg.l1 : Nat → ByteArray → Int → List (S55) → List (S57) → Option (ByteArray)
 | 0, _, _, _, _ => none
 | k + 1, z, s, y, G => if s < (y.length : Int) then (if 0 ≤ s then ((spec_l2Code.f ((rd_T55 y s).f0) ((rd_T55 y s).f1)).bind fun J => ((spec_PackNum.f k J).bind fun D => (if z.size + D.size ≤ 9223372036854775807 then ((spec_l2Near.f k y G ((rd_T55 y s).f0) ((rd_T55 y s).f1)).bind fun L => ((spec_l4Codes.f k L).bind fun M => ((spec_PackRow.f k M).bind fun I => (if (z ++ D).size + I.size ≤ 9223372036854775807 then (spec_l4Seg.l1 k ((z ++ D) ++ I) (wrap64 (s + 1)) y G) else (none))))) else (none)))) else (none)) else (some z)
end
def spec_l4Seg.f (k : Nat) (s : List (S55)) (y : List (S57)) (z : Int) : Option (ByteArray) := spec_l4Seg.l0 k z (([] : List Int)) 0 s y
def spec_l4Seg.T10 : Bool × List (List Nat × List Nat) := (true, [([], []), ([0], [0]), ([], []), ([2], [2]), ([3], [3]), ([4, 1], [4]), ([1, 5], [1, 5]), ([6, 5, 0, 1, 2, 3, 4, 5, 6], [6])])
def spec_l4Seg.B10 : List Nat := [0, 1, 0, 4, 12, 31, 63, 127]
theorem spec_l4Seg.tab10 : rtab .any (opsOf Try.f21 10) = spec_l4Seg.T10 := by kernel_rfl
theorem spec_l4Seg.bits10 : waitsOk spec_l4Seg.T10.2 spec_l4Seg.B10 = true := by kernel_rfl
def spec_l4Seg.T15 : Bool × List (List Nat × List Nat) := (true, [([], []), ([], []), ([1], [1]), ([2, 2], [2]), ([0, 3], [0, 3]), ([], []), ([], []), ([5, 6, 3], [5, 6]), ([7, 7], [7]), ([8, 8], [8]), ([4, 9], [4, 9]), ([10, 9, 0, 1, 2, 3, 4, 5, 6, 7, 8, 9, 10], [0, 10])])
def spec_l4Seg.B15 : List Nat := [0, 0, 2, 6, 15, 0, 0, 110, 238, 494, 1023, 2047]
theorem spec_l4Seg.tab15 : rtab .any (opsOf Try.f21 15) = spec_l4Seg.T15 := by kernel_rfl
theorem spec_l4Seg.bits15 : waitsOk spec_l4Seg.T15.2 spec_l4Seg.B15 = true := by kernel_rfl
theorem spec_l4Seg.calls (k : Nat) (an : Option Addr) (ao : Nat) (J : List (S55)) (ap : Option Addr) (aq : Nat) (ac : List (S57)) (a1 : Int) (r : ByteArray) (w : World) (bA : Kd.C k55 w an J.length J) (bB : J.length ≤ ao) (bC : Kd.C k57 w ap ac.length ac) (bD : ac.length ≤ aq) (h : spec_l4Seg.f k J ac a1 = some r) :
  Calls Try.prog 21 #[.agg #[.slice an J.length ao, .slice ap ac.length aq], .int .i64 a1] w fun e w' => e = .returned (.string r) ∧ Below w.heap.size w w' := by
 have hu38 := Try.underlying38
 have hu55 := Try.underlying55
 have aQ := am bA
 have bE := am bB
 clear bA bB
 have bF := am bC
 have bG := am bD
 clear bC bD
 have HB := am (Below.refl w.heap.size w)
 have H := h; unfold spec_l4Seg.f at H
 clear h
 obtain ⟨bH, bi⟩ : ∃ y_ : List Int, y_ = (([] : List Int)) := ⟨_, rfl⟩
 replace H : (spec_l4Seg.l0 k a1 bH 0 J ac) = some r := by first | (rw [bi]; exact H) | exact H
 have bI := am bi
 clear bi
 have H' := am H
 clear H
 go_enter Try.func21, Try.ntmps21
 go_wp2_with (first | ((with_reducible refine gd 2 rfl ?_); refine bx 2 (cs := #[.slice an J.length ao, .slice ap ac.length aq]) (t := 38) ?_; intro ba hg w3 hbox hb; have z := am hbox; have di := gwb HB hg; replace HB := hs HB hb; clear hb hbox hg) | ((with_reducible refine gd 11 rfl ?_); refine Kd.R_lit (Kd.int .i64) _ 3 ?hg (N := 11) ?hd (xs := ([] : List Int)) (inner := []) (ok := fun _ => True) (okp := fun _ => True) ?hr ?hp (fun _ hk => hk) trivial (Below.refl _ _) (Nat.le_refl _) (by simp) ?_; (case hd => rfl); (case hg => rfl); (case hr => first | (go_simp; done) | (go_simp; rfl)); (case hp => exact (Reps.none _ _)); intro dj w4 aT hb hg_ hnew_; clear hg_ hnew_; (first | rw [← bI.out] at aT | (simp only [Int.reduceToNat] at aT; rw [← bI.out] at aT)); have b4 := am (Kd.R_lower aT (below_size (bs HB.out))); replace z := bb z hb rfl; replace HB := hs HB hb; clear hb aT))
 go_loopg [5, 6] k (fun kq v5 v6 w' => ∃ (ae : List Int) (L : Int), v6 = .int .i64 L ∧ Aside0 (spec_l4Seg.l0 kq a1 ae L J ac = some r) ∧ Aside0 (kq ≤ k) ∧ Aside0 (Kd.R (Kd.int .i64) 3 w' w.heap.size (fun _ => True) v5 ae) ∧ Aside0 (w'.heap[ba]? = some (.cells #[(.slice an J.length ao), (.slice ap ac.length aq)] 38 (0, 0))) ∧ Aside0 (Below w.heap.size w w'))
 case atStart => exact ⟨(bH), (0), eqs, H', ⟨Nat.le_refl _⟩, ⟨rl b4.out⟩, ⟨bf z.out⟩, ⟨bs HB.out⟩⟩
 case round =>
  clear H'
  try clear c2
  try clear p2
  obtain ⟨ae, L, rfl, HA, aI, M, z, HB⟩ := hrel
  cases gk with
  | zero => exact absurd HA.out (by simp [spec_l4Seg.l0])
  | succ k1 =>
   have H := HA.out
   clear HA
   simp only [spec_l4Seg.l0] at H
   by_cases c6 : L < (J.length : Int)
   ·rw [if_pos c6] at H
    have bJ : decide (L < (J.length : Int)) = true := decide_eq_true c6
    clear c6
    by_cases c7 : 0 ≤ L
    ·rw [if_pos c7] at H
     have b5 : decide (0 ≤ L) = true := decide_eq_true c7
     clear c7
     by_cases c8 : ((rd_T55 J L).f0) = a1
     ·rw [if_pos c8] at H
      have bK : (((rd_T55 J L).f0) == a1) = true := beq_iff_eq.mpr c8
      have bL : (((rd_T55 J L).f0) != a1) = false := bne_eq_false_iff_eq.mpr c8
      clear c8
      by_cases c9 : ae.length < 17592186044416
      ·rw [if_pos c9] at H
       have b6 := am c9
       clear c9
       obtain ⟨bM, bj⟩ : ∃ y_ : List Int, y_ = (ae ++ [(rd_T55 J L).f1]) := ⟨_, rfl⟩
       replace H : (spec_l4Seg.l0 k1 a1 bM (wrap64 (L + 1)) J ac) = some r := by first | (rw [bj]; exact H) | exact H
       have b7 := am bj
       clear bj
       have H' := am H
       clear H
       obtain ⟨b8, b9⟩ := bc2 (w := wr) z.out
       have ce := blk_frozen z.out
       have ar : 0 ≤ (L : Int) := oda
       have au : L < (J.length : Int) := oda
       obtain ⟨bN, bk, aJ, aK⟩ := at_T55 aQ.out L ar au
       cases bk
       replace aJ := cb HB aJ
       replace aK := cb HB aK
       replace ar := eq_true ar
       replace au := eq_true au
       have bc : 0 ≤ (L : Int) := oda
       have be : L < (J.length : Int) := oda
       obtain ⟨cf, cg, bl, bm⟩ := at_T55 aQ.out L bc be
       obtain rfl : bN = cf := (by injection cg)
       replace bl := cb HB bl
       replace bm := cb HB bm
       replace bc := eq_true bc
       replace be := eq_true be
       go_wp2_with (first | ((with_reducible refine gate_builtin (b := .append) (xs := #[.tmp 27, .tmp 34]) rfl ?_); at_builtin; refine Kd.R_append (Kd.int .i64) (w0 := w) w.heap.size rfl (.tmp 27) (.tmp 34) 49 3 (.int .i64 0) 8 rfl Try.underlying49 info3 rfl (by decide) (by omega) u5 ae ((rd_T55 J L).f1) [.int .i64 ((rd_T55 J L).f1)] (fun _ => True) (fun _ => False) rfl rfl ?aP (fun _ hk => hk.elim) ?aF ?aO ?aB ?aS ?aL ?_; (case aP => exact rfl); (case aB => exact (bs HB.out)); (case aF => exact (fun _ _ => trivial)); (case aO => exact (rl M.out)); (case aS => exact (below_size (bs HB.out))); (case aL => have := b6.out; omega); intro dk dl ho hb hg hat; rw [← b7.out] at ho; replace z := gr z M hg; replace HB := am hb; have ch := am ho; clear M; clear ho hb hg hat))
       go_roundg k1
       case measure => have := aI.out; omega
       case rel => exact ⟨(bM), (wrap64 (L + 1)), eqs, H', ⟨by have := aI.out; omega⟩, ⟨rl ch.out⟩, ⟨bf z.out⟩, ⟨bs HB.out⟩⟩
      ·rw [if_neg c9] at H
       exact absurd H (by simp)
     ·rw [if_neg c8] at H
      have bK : (((rd_T55 J L).f0) == a1) = false := beq_eq_false_iff_ne.mpr c8
      have bL : (((rd_T55 J L).f0) != a1) = true := bne_iff_ne.mpr c8
      have H' := am H
      clear H
      obtain ⟨ci, cj⟩ := bc2 (w := wr) z.out
      have ck := blk_frozen z.out
      have ar : 0 ≤ (L : Int) := oda
      have au : L < (J.length : Int) := oda
      obtain ⟨bN, bk, aJ, aK⟩ := at_T55 aQ.out L ar au
      cases bk
      replace aJ := cb HB aJ
      replace aK := cb HB aK
      replace ar := eq_true ar
      replace au := eq_true au
      go_wp2
      go_roundg k1
      case measure => have := aI.out; omega
      case rel => exact ⟨(ae), (wrap64 (L + 1)), eqs, H', ⟨by have := aI.out; omega⟩, ⟨rl M.out⟩, ⟨bf z.out⟩, ⟨bs HB.out⟩⟩
    ·rw [if_neg c7] at H
     exact absurd H (by simp)
   ·rw [if_neg c6] at H
    have bJ : decide (L < (J.length : Int)) = false := decide_eq_false c6
    clear c6
    replace H := Option.bind_eq_some_iff.mp H
    obtain ⟨⟨s, O⟩, bO, H⟩ := H
    try dsimp -simprocs only at H
    have bP := am bO
    clear bO
    by_cases av : (wrap64 ((ae.length : Int) + (s.length : Int))) = 0
    ·rw [if_pos av] at H
     have bQ : ((wrap64 ((ae.length : Int) + (s.length : Int))) == 0) = true := beq_iff_eq.mpr av
     have bR : ((wrap64 ((ae.length : Int) + (s.length : Int))) != 0) = false := bne_eq_false_iff_eq.mpr av
     clear av
     obtain rfl := Option.some.inj H
     obtain ⟨cl, cm⟩ := bc2 (w := wr) z.out
     have cn := blk_frozen z.out
     go_wp2_with (first | ((with_reducible refine gc 28 rfl ?_); refine gl 38 Try.func28 #[.agg #[.slice an J.length ao, .slice ap ac.length aq], .int .i64 a1] ?_; (with_reducible refine (spec_l4Only.calls k1 _ _ J _ _ ac a1 s O _ ?aj ?ak ?aU ?aV bP.out).mono ?_); (case aj => exact Kd.C_below aQ.out (bs HB.out)); (case ak => exact bE.out); (case aU => exact Kd.C_below bF.out (bs HB.out)); (case aV => exact bG.out); rintro e dm ⟨co, cp, rfl, ai, aW, hb⟩; refine ⟨_, rfl, ?_⟩; replace M := rb M hb; have aa := am (Kd.R_lower ai (below_size (bs HB.out))); have ab := am (Kd.R_lower aW (below_size (bs HB.out))); replace z := bb z hb rfl; replace HB := hs HB hb; (try clear ai aW hb)) | ((with_reducible refine gd 7 rfl ?_); refine bx 7 (cs := #[.slice none 0 0, .slice none 0 0]) (t := 38) ?_; intro Y hg ct hbox hb; replace M := rb M hb; replace aa := rb aa hb; replace ab := rb ab hb; have y := am hbox; have cu := gwb HB hg; replace HB := hs HB hb; have aX := nq z hg; have aY := nq' z hg; replace z := bb z hb rfl; clear hb hbox hg; obtain ⟨dp, dq, cv⟩ := Kd.R_slice aa.out; subst cv; have dr := aY.out; have dt := aX.out; obtain ⟨cy, cz⟩ := bc2 (w := ct) y.out; have cA := blk_frozen y.out; obtain ⟨du, dv, cB⟩ := Kd.R_slice ab.out; subst cB; obtain ⟨dw, dx, cC⟩ := Kd.R_slice M.out; subst cC))
     go_ret
     exact ⟨eqr, bs HB.out⟩
    ·rw [if_neg av] at H
     have bQ : ((wrap64 ((ae.length : Int) + (s.length : Int))) == 0) = false := beq_eq_false_iff_ne.mpr av
     have bR : ((wrap64 ((ae.length : Int) + (s.length : Int))) != 0) = true := bne_iff_ne.mpr av
     replace H := Option.bind_eq_some_iff.mp H
     obtain ⟨aZ, bS, H⟩ := H
     try dsimp -simprocs only at H
     have cD := am bS
     clear bS
     replace H := Option.bind_eq_some_iff.mp H
     obtain ⟨a3, bT, H⟩ := H
     try dsimp -simprocs only at H
     have cE := am bT
     clear bT
     by_cases aM : aZ.size + a3.size ≤ 9223372036854775807
     ·rw [if_pos aM] at H
      have cF := eq_true aM
      have cG : decide (aZ.size + a3.size ≤ 9223372036854775807) = true := decide_eq_true aM
      try have cH : (9223372036854775807 < aZ.size + a3.size) = False := eq_false (Nat.not_lt.2 aM)
      have H' := am H
      clear H
      obtain ⟨cI, cJ⟩ := bc2 (w := wr) z.out
      have cK := blk_frozen z.out
      try go_wp2_with (first | ((with_reducible refine gc 28 rfl ?_); refine gl 38 Try.func28 #[.agg #[.slice an J.length ao, .slice ap ac.length aq], .int .i64 a1] ?_; (with_reducible refine (spec_l4Only.calls k1 _ _ J _ _ ac a1 s O _ ?aj ?ak ?aU ?aV bP.out).mono ?_); (case aj => exact Kd.C_below aQ.out (bs HB.out)); (case ak => exact bE.out); (case aU => exact Kd.C_below bF.out (bs HB.out)); (case aV => exact bG.out); rintro e dy ⟨co, cp, rfl, ai, aW, hb⟩; refine ⟨_, rfl, ?_⟩; replace M := rb M hb; have aa := am (Kd.R_lower ai (below_size (bs HB.out))); have ab := am (Kd.R_lower aW (below_size (bs HB.out))); replace z := bb z hb rfl; replace HB := hs HB hb; (try clear ai aW hb)) | ((with_reducible refine gd 7 rfl ?_); refine bx 7 (cs := #[.slice none 0 0, .slice none 0 0]) (t := 38) ?_; intro Y hg aw hbox hb; replace M := rb M hb; replace aa := rb aa hb; replace ab := rb ab hb; have y := am hbox; have cu := gwb HB hg; replace HB := hs HB hb; have aX := nq z hg; have aY := nq' z hg; replace z := bb z hb rfl; clear hb hbox hg; obtain ⟨ah, ad, cL⟩ := Kd.R_slice aa.out; subst cL; have dz := aY.out; have dA := aX.out; obtain ⟨cM, cN⟩ := bc2 (w := aw) y.out; have cO := blk_frozen y.out; obtain ⟨af, ag, cP⟩ := Kd.R_slice ab.out; subst cP; obtain ⟨bU, bV, cQ⟩ := Kd.R_slice M.out; subst cQ))
      have az : Aside0 (Kd.R (Kd.int .i64) 3 ((aw.setCell ⟨Y, 0, none⟩ (.slice ah s.length ad)).setCell ⟨Y, 1, none⟩ (.slice af O.length ag)) w.heap.size (fun _ => True) (.slice bU ae.length bV) ae) := ⟨Kd.R_mono (rt M.out y.out (by decide)) (fun _ hk => trivial)⟩
      have aA : Aside0 (Kd.R k55 55 ((aw.setCell ⟨Y, 0, none⟩ (.slice ah s.length ad)).setCell ⟨Y, 1, none⟩ (.slice af O.length ag)) w.heap.size (fun _ => True) (.slice ah s.length ad) s) := ⟨Kd.R_mono (rt aa.out y.out (by decide)) (fun _ hk => trivial)⟩
      have aC : Aside0 (Kd.R k57 57 ((aw.setCell ⟨Y, 0, none⟩ (.slice ah s.length ad)).setCell ⟨Y, 1, none⟩ (.slice af O.length ag)) w.heap.size (fun _ => True) (.slice af O.length ag) O) := ⟨Kd.R_mono (rt ab.out y.out (by decide)) (fun _ hk => trivial)⟩
      have aD : Aside0 (((aw.setCell ⟨Y, 0, none⟩ (.slice ah s.length ad)).setCell ⟨Y, 1, none⟩ (.slice af O.length ag)).heap[ba]? = some (.cells #[.slice an J.length ao, .slice ap ac.length aq] 38 (0, 0))) := ⟨bf z.out⟩
      have aE : Aside0 (((aw.setCell ⟨Y, 0, none⟩ (.slice ah s.length ad)).setCell ⟨Y, 1, none⟩ (.slice af O.length ag)).heap[Y]? = some (.cells #[.slice ah s.length ad, .slice af O.length ag] 38 (0, 0))) := ⟨by (with_reducible repeat (first | refine blk_drewN ?_ _ | refine blk_drew ?_ | refine blk_alloc ?_ _)); refine blk_put (cs := #[.slice ah s.length ad, .slice none 0 0]) ?_ 1 _ rfl; (with_reducible repeat (first | refine blk_drewN ?_ _ | refine blk_drew ?_ | refine blk_alloc ?_ _)); refine blk_put (cs := #[.slice none 0 0, .slice none 0 0]) ?_ 0 _ rfl; exact bf y.out⟩
      have aG : Aside0 (Below w.heap.size w ((aw.setCell ⟨Y, 0, none⟩ (.slice ah s.length ad)).setCell ⟨Y, 1, none⟩ (.slice af O.length ag))) := ⟨bs HB.out⟩
      (try clear M)
      (try clear aa)
      (try clear ab)
      (try clear z)
      (try clear y)
      (try clear HB)
      generalize ((aw.setCell ⟨Y, 0, none⟩ (.slice ah s.length ad)).setCell ⟨Y, 1, none⟩ (.slice af O.length ag)) = cR at az aA aC aD aE aG ⊢
      have M := az
      have aa := aA
      have ab := aC
      have z := aD
      have y := aE
      have HB := aG
      clear az aA aC aD aE aG
      replace M := rd_ M
      replace aa := rd_ aa
      replace ab := rd_ ab
      replace z := bd z
      replace y := bd y
      replace HB := hd HB
      refine sta 8 (fun w' => w'.cell? ⟨Y, 0, none⟩ = some (.slice ah s.length ad) ∧ w'.cell? ⟨Y, 1, none⟩ = some (.slice af O.length ag)) [] ⟨cx y 0, cx y 1⟩ (fun hHeld => ?_); refine with_tabW spec_l4Seg.tab10 spec_l4Seg.bits10 (fun HT_ HW_ => ?_)
      generalize cR.drew = dB at M aa ab z y HB hHeld ⊢
      refine pu 0 46 ?_
      refine pu 2 48 ?_
      refine tk 3 49 ?_
      refine pu 4 50 ?_
      refine on 1 47 (fun K hK => ?_)
      refine gs Try.func29 #[.slice bU ae.length bV] ?_
      with_reducible refine (spec_PackRow.calls k1 _ _ ae aZ _ ?aj ?ak cD.out).mono ?_
      (case aj => exact cr M)
      (case ak => exact cc M)
      rintro e dC ⟨rfl, hb⟩
      refine ⟨_, rfl, ?_⟩
      replace M := rb M hb
      replace aa := rb aa hb
      replace ab := rb ab hb
      replace z := bb z hb rfl
      replace y := bb y hb rfl
      replace HB := hs HB hb
      (try clear hb)
      (try clear hb2)
      (try clear hk)
      (try clear hi)
      refine hK.out _ _ ⟨cx y 0, cx y 1⟩ (fun hHeld => ?_)
      clear hK K
      refine nrm 47 ?_
      refine on 5 51 (fun K hK => ?_)
      refine gs Try.func30 #[.int .i64 (s.length : Int)] ?_
      with_reducible refine (spec_PackNum.calls k1 (s.length : Int) a3 _ cE.out).mono ?_
      rintro e dD ⟨rfl, hb⟩
      refine ⟨_, rfl, ?_⟩
      replace M := rb M hb
      replace aa := rb aa hb
      replace ab := rb ab hb
      replace z := bb z hb rfl
      replace y := bb y hb rfl
      replace HB := hs HB hb
      (try clear hb)
      (try clear hb2)
      (try clear hk)
      (try clear hi)
      refine hK.out _ _ ⟨cx y 0, cx y 1⟩ (fun hHeld => ?_)
      clear hK K
      refine nrm 51 ?_
      refine pu 6 52 ?_
      refine pu 7 8 ?_
      refine dn ?_
      try go_wp2
      go_loopg [8, 9] k1 (fun kq v8 v9 w' => ∃ (al : ByteArray) (G : Int), v8 = .string al ∧ v9 = .int .i64 G ∧ Aside0 (spec_l4Seg.l1 kq al G s O = some r) ∧ Aside0 (kq ≤ k1) ∧ Aside0 (Kd.R k55 55 w' w.heap.size (fun _ => True) (.slice ah s.length ad) s) ∧ Aside0 (Kd.R k57 57 w' w.heap.size (fun _ => True) (.slice af O.length ag) O) ∧ Aside0 (w'.heap[ba]? = some (.cells #[(.slice an J.length ao), (.slice ap ac.length aq)] 38 (0, 0))) ∧ Aside0 (w'.heap[Y]? = some (.cells #[(.slice ah s.length ad), (.slice af O.length ag)] 38 (0, 0))) ∧ Aside0 (Below w.heap.size w w'))
      case atStart => exact ⟨(aZ ++ a3), (0), eqs, eqs, H', ⟨Nat.le_refl _⟩, ⟨rl aa.out⟩, ⟨rl ab.out⟩, ⟨bf z.out⟩, ⟨bf y.out⟩, ⟨bs HB.out⟩⟩
      case round =>
       clear H'
       try clear c1
       try clear c2
       try clear p2
       try clear q2
       try clear dE
       try clear c3
       try clear c6
       try clear bJ
       try clear p6
       try clear c7
       try clear b5
       try clear c8
       try clear bK
       try clear bL
       try clear c9
       try clear av
       try clear bQ
       try clear bR
       try clear dF
       try clear dG
       try clear aM
       try clear cF
       try clear cG
       try clear cH
       try clear dH
       try clear dI
       try clear dJ
       try clear dK
       try clear dL
       try clear dM
       try clear b8 b9
       try clear ci cj
       try clear cl cm
       try clear cy cz
       try clear cI cJ
       try clear cM cN
       try clear ce
       try clear ck
       try clear cn
       try clear cA
       try clear cK
       try clear cO
       try clear aJ
       try clear aK
       try clear bl
       try clear bm
       try clear p2
       try clear ar
       try clear bc
       try clear au
       try clear be
       obtain ⟨al, G, rfl, rfl, HA, bW, T, Z, z, y, HB⟩ := hrel
       cases gk with
       | zero => exact absurd HA.out (by simp [spec_l4Seg.l1])
       | succ k2 =>
        have H := HA.out
        clear HA
        simp only [spec_l4Seg.l1] at H
        by_cases aN : G < (s.length : Int)
        ·rw [if_pos aN] at H
         have cS : decide (G < (s.length : Int)) = true := decide_eq_true aN
         clear aN
         by_cases bg : 0 ≤ G
         ·rw [if_pos bg] at H
          have dN : decide (0 ≤ G) = true := decide_eq_true bg
          clear bg
          replace H := Option.bind_eq_some_iff.mp H
          obtain ⟨bn, bX, H⟩ := H
          try dsimp -simprocs only at H
          have cT := am bX
          clear bX
          replace H := Option.bind_eq_some_iff.mp H
          obtain ⟨ax, bY, H⟩ := H
          try dsimp -simprocs only at H
          have cU := am bY
          clear bY
          by_cases a4 : al.size + ax.size ≤ 9223372036854775807
          ·rw [if_pos a4] at H
           have dO := eq_true a4
           have dP : decide (al.size + ax.size ≤ 9223372036854775807) = true := decide_eq_true a4
           try have dQ : (9223372036854775807 < al.size + ax.size) = False := eq_false (Nat.not_lt.2 a4)
           replace H := Option.bind_eq_some_iff.mp H
           obtain ⟨bo, bZ, H⟩ := H
           try dsimp -simprocs only at H
           have cV := am bZ
           clear bZ
           replace H := Option.bind_eq_some_iff.mp H
           obtain ⟨br, b0, H⟩ := H
           try dsimp -simprocs only at H
           have cW := am b0
           clear b0
           replace H := Option.bind_eq_some_iff.mp H
           obtain ⟨a5, b1, H⟩ := H
           try dsimp -simprocs only at H
           have cX := am b1
           clear b1
           by_cases a6 : (al ++ ax).size + a5.size ≤ 9223372036854775807
           ·rw [if_pos a6] at H
            have dR := eq_true a6
            have dS : decide ((al ++ ax).size + a5.size ≤ 9223372036854775807) = true := decide_eq_true a6
            try have cY : (9223372036854775807 < (al ++ ax).size + a5.size) = False := eq_false (Nat.not_lt.2 a6)
            have cZ := cY
            (try simp only [ByteArray.size_append] at cZ)
            have H' := am H
            clear H
            have dT := aY.out
            have dU := aX.out
            obtain ⟨dV, dW⟩ := bc2 (w := wr) y.out
            have dX := blk_frozen y.out
            have bt : 0 ≤ (G : Int) := oda
            have bu : G < (s.length : Int) := oda
            obtain ⟨bh, c0, dY, dZ⟩ := at_T55 (Kd.R_reads' T.out).2.2 G bt bu
            cases c0
            replace bt := eq_true bt
            replace bu := eq_true bu
            try go_wp2_with (first | ((with_reducible refine gd 10 rfl ?_); refine bx 10 (cs := #[.int .i64 0, .int .i64 0]) (t := 55) ?_; intro X hg ay hbox hb; replace T := am (Kd.R_below (Kd.R_elderB (rl T.out) X (Nat.le_of_eq hg.symm)) hb); replace Z := rb Z hb; have I := am hbox; have d0 := gwb HB hg; replace HB := hs HB hb; have c4 := nq z hg; have da := nq' z hg; replace z := bb z hb rfl; have db := nq y hg; have dc := nq' y hg; replace y := bb y hb rfl; clear hb hbox hg; have d1 := da.out; have d2 := c4.out; have d3 := dc.out; have d4 := db.out; obtain ⟨d5, d6⟩ := bc2 (w := ay) I.out; have d7 := blk_frozen I.out))
            have az : Aside0 (Kd.R k55 55 ((ay.setCell ⟨X, 0, none⟩ (.int .i64 ((rd_T55 s G).f0))).setCell ⟨X, 1, none⟩ (.int .i64 ((rd_T55 s G).f1))) w.heap.size (fun k_ => k_ ≠ X) (.slice (some bh) s.length ad) s) := ⟨by (with_reducible repeat (first | apply Kd.R_alloc | apply Kd.R_drewN | apply Kd.R_drew)); exact Kd.R_mono (Kd.R_far (p := ⟨X, 1, none⟩) (Kd.R_far (p := ⟨X, 0, none⟩) (Kd.R_mono T.out (fun k_ hk => (⟨hk, hk.2⟩ : _ ∧ k_ ≠ X))) (fun _ hk => hk.2) (.int .i64 ((rd_T55 s G).f0))) (fun _ hk => hk.2) (.int .i64 ((rd_T55 s G).f1))) (fun _ hk => hk.1.2)⟩
            have aA : Aside0 (Kd.R k57 57 ((ay.setCell ⟨X, 0, none⟩ (.int .i64 ((rd_T55 s G).f0))).setCell ⟨X, 1, none⟩ (.int .i64 ((rd_T55 s G).f1))) w.heap.size (fun _ => True) (.slice af O.length ag) O) := ⟨Kd.R_mono (rt Z.out I.out (by decide)) (fun _ hk => trivial)⟩
            have aC : Aside0 (((ay.setCell ⟨X, 0, none⟩ (.int .i64 ((rd_T55 s G).f0))).setCell ⟨X, 1, none⟩ (.int .i64 ((rd_T55 s G).f1))).heap[ba]? = some (.cells #[.slice an J.length ao, .slice ap ac.length aq] 38 (0, 0))) := ⟨bf z.out⟩
            have aD : Aside0 (((ay.setCell ⟨X, 0, none⟩ (.int .i64 ((rd_T55 s G).f0))).setCell ⟨X, 1, none⟩ (.int .i64 ((rd_T55 s G).f1))).heap[Y]? = some (.cells #[.slice (some bh) s.length ad, .slice af O.length ag] 38 (0, 0))) := ⟨bf y.out⟩
            have aE : Aside0 (((ay.setCell ⟨X, 0, none⟩ (.int .i64 ((rd_T55 s G).f0))).setCell ⟨X, 1, none⟩ (.int .i64 ((rd_T55 s G).f1))).heap[X]? = some (.cells #[.int .i64 ((rd_T55 s G).f0), .int .i64 ((rd_T55 s G).f1)] 55 (0, 0))) := ⟨by (with_reducible repeat (first | refine blk_drewN ?_ _ | refine blk_drew ?_ | refine blk_alloc ?_ _)); refine blk_put (cs := #[.int .i64 ((rd_T55 s G).f0), .int .i64 0]) ?_ 1 _ rfl; (with_reducible repeat (first | refine blk_drewN ?_ _ | refine blk_drew ?_ | refine blk_alloc ?_ _)); refine blk_put (cs := #[.int .i64 0, .int .i64 0]) ?_ 0 _ rfl; exact bf I.out⟩
            have aG : Aside0 (Below w.heap.size w ((ay.setCell ⟨X, 0, none⟩ (.int .i64 ((rd_T55 s G).f0))).setCell ⟨X, 1, none⟩ (.int .i64 ((rd_T55 s G).f1)))) := ⟨bs HB.out⟩
            (try clear T)
            (try clear Z)
            (try clear z)
            (try clear y)
            (try clear I)
            (try clear HB)
            generalize ((ay.setCell ⟨X, 0, none⟩ (.int .i64 ((rd_T55 s G).f0))).setCell ⟨X, 1, none⟩ (.int .i64 ((rd_T55 s G).f1))) = dd at az aA aC aD aE aG ⊢
            have T := az
            have Z := aA
            have z := aC
            have y := aD
            have I := aE
            have HB := aG
            clear az aA aC aD aE aG
            replace T := rd_ T
            replace Z := rd_ Z
            replace z := bd z
            replace y := bd y
            replace I := bd I
            replace HB := hd HB
            refine sta 12 (fun w' => w'.cell? ⟨X, 0, none⟩ = some (.int .i64 ((rd_T55 s G).f0)) ∧ w'.cell? ⟨X, 1, none⟩ = some (.int .i64 ((rd_T55 s G).f1)) ∧ w'.cell? ⟨Y, 0, none⟩ = some (.slice (some bh) s.length ad) ∧ w'.cell? ⟨Y, 1, none⟩ = some (.slice af O.length ag)) [] ⟨cx I 0, cx I 1, cx y 0, cx y 1⟩ (fun hHeld => ?_); refine with_tabW spec_l4Seg.tab15 spec_l4Seg.bits15 (fun HT_ HW_ => ?_)
            generalize dd.drew = d8 at T Z z y I HB hHeld ⊢
            refine pu 0 65 ?_
            refine tk 1 66 ?_
            refine tk 5 70 ?_
            refine tk 6 71 ?_
            refine on 2 67 (fun K hK => ?_)
            refine gs Try.func31 #[.agg #[.int .i64 ((rd_T55 s G).f0), .int .i64 ((rd_T55 s G).f1)]] ?_
            with_reducible refine (spec_l2Code.calls ((rd_T55 s G).f0) ((rd_T55 s G).f1) bn _ cT.out).mono ?_
            rintro e d9 ⟨rfl, hb⟩
            refine ⟨_, rfl, ?_⟩
            replace T := rb T hb
            replace Z := rb Z hb
            replace z := bb z hb rfl
            replace y := bb y hb rfl
            replace I := bb I hb rfl
            replace HB := hs HB hb
            (try clear hb)
            (try clear hb2)
            (try clear hk)
            (try clear hi)
            refine hK.out _ _ ⟨cx I 0, cx I 1, cx y 0, cx y 1⟩ (fun hHeld => ?_)
            clear hK K
            refine nrm 67 ?_
            refine on 3 68 (fun K hK => ?_)
            refine gs Try.func30 #[.int .i64 bn] ?_
            with_reducible refine (spec_PackNum.calls k2 bn ax _ cU.out).mono ?_
            rintro e ea ⟨rfl, hb⟩
            refine ⟨_, rfl, ?_⟩
            replace T := rb T hb
            replace Z := rb Z hb
            replace z := bb z hb rfl
            replace y := bb y hb rfl
            replace I := bb I hb rfl
            replace HB := hs HB hb
            (try clear hb)
            (try clear hb2)
            (try clear hk)
            (try clear hi)
            refine hK.out _ _ ⟨cx I 0, cx I 1, cx y 0, cx y 1⟩ (fun hHeld => ?_)
            clear hK K
            refine nrm 68 ?_
            refine pu 4 69 ?_
            refine on 7 72 (fun K hK => ?_)
            refine gs Try.func33 #[.agg #[.slice (some bh) s.length ad, .slice af O.length ag], .agg #[.int .i64 ((rd_T55 s G).f0), .int .i64 ((rd_T55 s G).f1)]] ?_
            with_reducible refine (spec_l2Near.calls k2 _ _ s _ _ O ((rd_T55 s G).f0) ((rd_T55 s G).f1) bo _ ?aj ?ak ?aU ?aV cV.out).mono ?_
            (case aj => exact cr T)
            (case ak => exact cc T)
            (case aU => exact cr Z)
            (case aV => exact cc Z)
            rintro e eb ⟨ec, rfl, ai, hb⟩
            refine ⟨_, rfl, ?_⟩
            replace Z := rb Z hb
            have aH := am (Kd.R_lower (Kd.R_newB (Kd.R_new' ai (rk T)) (g := X) (o := .cells #[.int .i64 ((rd_T55 s G).f0), .int .i64 ((rd_T55 s G).f1)] 55 (0, 0)) (bf I.out)) (below_size (bs HB.out)))
            replace T := re T ai hb
            replace z := bb z hb rfl
            replace y := bb y hb rfl
            replace I := bb I hb rfl
            replace HB := hs HB hb
            (try clear hb)
            (try clear hb2)
            (try clear hk)
            (try clear hi)
            (try clear ai)
            obtain ⟨de, df, b2⟩ := Kd.R_slice aH.out
            (first | subst b2 | (injection b2 with a7 bv a8; have bw := a7.symm; have bz := a8.symm; clear a7 bv a8; subst bw; subst bz))
            refine hK.out _ _ ⟨cx I 0, cx I 1, cx y 0, cx y 1⟩ (fun hHeld => ?_)
            clear hK K
            refine nrm 72 ?_
            refine on 8 73 (fun K hK => ?_)
            refine gs Try.func32 #[.slice de bo.length df] ?_
            with_reducible refine (spec_l4Codes.calls k2 _ _ bo br _ ?aj ?ak cW.out).mono ?_
            (case aj => exact cr aH)
            (case ak => exact cc aH)
            rintro e ed ⟨ee, rfl, ai, hb⟩
            refine ⟨_, rfl, ?_⟩
            replace T := rb T hb
            replace Z := rb Z hb
            replace aH := rb aH hb
            have a9 := am (Kd.R_lower ai (below_size (bs HB.out)))
            replace z := bb z hb rfl
            replace y := bb y hb rfl
            replace I := bb I hb rfl
            replace HB := hs HB hb
            (try clear hb)
            (try clear hb2)
            (try clear hk)
            (try clear hi)
            (try clear ai)
            obtain ⟨dg, dh, b3⟩ := Kd.R_slice a9.out
            (first | subst b3 | (injection b3 with a7 bv a8; have bw := a7.symm; have bz := a8.symm; clear a7 bv a8; subst bw; subst bz))
            refine hK.out _ _ ⟨cx I 0, cx I 1, cx y 0, cx y 1⟩ (fun hHeld => ?_)
            clear hK K
            refine nrm 73 ?_
            refine on 9 74 (fun K hK => ?_)
            refine gs Try.func29 #[.slice dg br.length dh] ?_
            with_reducible refine (spec_PackRow.calls k2 _ _ br a5 _ ?aj ?ak cX.out).mono ?_
            (case aj => exact cr a9)
            (case ak => exact cc a9)
            rintro e ef ⟨rfl, hb⟩
            refine ⟨_, rfl, ?_⟩
            replace T := rb T hb
            replace Z := rb Z hb
            replace aH := rb aH hb
            replace a9 := rb a9 hb
            replace z := bb z hb rfl
            replace y := bb y hb rfl
            replace I := bb I hb rfl
            replace HB := hs HB hb
            (try clear hb)
            (try clear hb2)
            (try clear hk)
            (try clear hi)
            refine hK.out _ _ ⟨cx I 0, cx I 1, cx y 0, cx y 1⟩ (fun hHeld => ?_)
            clear hK K
            refine nrm 74 ?_
            refine pu 10 75 ?_
            refine pu 11 8 ?_
            refine dn ?_
            try go_wp2
            go_roundg k2
            case measure => have := aI.out; have := bW.out; omega
            case rel => exact ⟨((al ++ ax) ++ a5), (wrap64 (G + 1)), eqs, eqs, H', ⟨by have := aI.out; have := bW.out; omega⟩, ⟨by (with_reducible repeat (first | apply Kd.R_alloc | apply Kd.R_drewN | apply Kd.R_drew)); exact Kd.R_mono T.out (fun _ hk => trivial)⟩, ⟨rl Z.out⟩, ⟨bf z.out⟩, ⟨bf y.out⟩, ⟨bs HB.out⟩⟩
           ·rw [if_neg a6] at H
            exact absurd H (by simp)
          ·rw [if_neg a4] at H
           exact absurd H (by simp)
         ·rw [if_neg bg] at H
          exact absurd H (by simp)
        ·rw [if_neg aN] at H
         have cS : decide (G < (s.length : Int)) = false := decide_eq_false aN
         clear aN
         obtain rfl := Option.some.inj H
         have eg := aY.out
         have eh := aX.out
         obtain ⟨ei, ej⟩ := bc2 (w := wr) y.out
         have ek := blk_frozen y.out
         go_wp2
         go_ret
         exact ⟨eqr, bs HB.out⟩
     ·rw [if_neg aM] at H
      exact absurd H (by simp)

/-! ### spec_l4Store: function 12 -/
def spec_l4Store.l0 : Nat → List (S42) → Int → List (S55) → List (S57) → Option ((List (S42)))
 | 0, _, _, _, _ => none
 | k + 1, y, s, z, D => if s ≤ 7 then ((spec_l4Seg.f k z D s).bind fun G => (if G.toList = ([] : List UInt8) then (spec_l4Store.l0 k y (wrap64 (s + 1)) z D) else (if y.length < 5864062014805 then (spec_l4Store.l0 k (y ++ [(⟨s, G⟩ : S42)]) (wrap64 (s + 1)) z D) else (none)))) else (some y)
def spec_l4Store.f (k : Nat) (s : List (S55)) (y : List (S57)) : Option ((List (S42))) := spec_l4Store.l0 k (([] : List (S42))) 0 s y
theorem spec_l4Store.calls (k : Nat) (M : Option Addr) (O : Nat) (z : List (S55)) (T : Option Addr) (X : Nat) (D : List (S57)) (r : List (S42)) (w : World) (aj : Kd.C k55 w M z.length z) (ak : z.length ≤ O) (al : Kd.C k57 w T D.length D) (an : D.length ≤ X) (h : spec_l4Store.f k z D = some r) :
  Calls Try.prog 12 #[.agg #[.slice M z.length O, .slice T D.length X]] w fun e w' => ∃ ao : Value, e = .returned (ao) ∧ Kd.R k42 42 w' w.heap.size (fun _ => True) ao r ∧ Below w.heap.size w w' := by
 have hu38 := Try.underlying38
 have hu42 := Try.underlying42
 have ap := am aj
 have aq := am ak
 clear aj ak
 have ar := am al
 have au := am an
 clear al an
 have HB := am (Below.refl w.heap.size w)
 have H := h; unfold spec_l4Store.f at H
 clear h
 obtain ⟨av, ad⟩ : ∃ y_ : List (S42), y_ = (([] : List (S42))) := ⟨_, rfl⟩
 replace H : (spec_l4Store.l0 k av 0 z D) = some r := by first | (rw [ad]; exact H) | exact H
 have aw := am ad
 clear ad
 have H' := am H
 clear H
 go_enter Try.func12, Try.ntmps12
 go_wp2_with (first | ((with_reducible refine gd 1 rfl ?_); refine bx 1 (cs := #[.slice M z.length O, .slice T D.length X]) (t := 38) ?_; intro az hg w2 hbox hb; have y := am hbox; have aJ := gwb HB hg; replace HB := hs HB hb; clear hb hbox hg) | ((with_reducible refine gd 6 rfl ?_); refine Kd.R_lit k42 _ 42 ?hg (N := 6) ?hd (xs := ([] : List (S42))) (inner := []) (ok := fun _ => True) (okp := fun _ => True) ?hr ?hp (fun _ hk => hk) trivial (Below.refl _ _) (Nat.le_refl _) (by simp) ?_; (case hd => rfl); (case hg => rfl); (case hr => first | (go_simp; done) | (go_simp; rfl)); (case hp => exact (Reps.none _ _)); intro aK w3 Z hb hg_ hnew_; clear hg_ hnew_; (first | rw [← aw.out] at Z | (simp only [Int.reduceToNat] at Z; rw [← aw.out] at Z)); have aA := am (Kd.R_lower Z (below_size (bs HB.out))); replace y := bb y hb rfl; replace HB := hs HB hb; clear hb Z))
 go_loopg [3, 4] k (fun kq v3 v4 w' => ∃ (J : List (S42)) (s : Int), v4 = .int .i64 s ∧ Aside0 (spec_l4Store.l0 kq J s z D = some r) ∧ Aside0 (kq ≤ k) ∧ Aside0 (Kd.R k42 42 w' w.heap.size (fun _ => True) v3 J) ∧ Aside0 (w'.heap[az]? = some (.cells #[(.slice M z.length O), (.slice T D.length X)] 38 (0, 0))) ∧ Aside0 (Below w.heap.size w w'))
 case atStart => exact ⟨(av), (0), eqs, H', ⟨Nat.le_refl _⟩, ⟨rl aA.out⟩, ⟨bf y.out⟩, ⟨bs HB.out⟩⟩
 case round =>
  clear H'
  try clear c1
  try clear p2
  obtain ⟨J, s, rfl, HA, ab, I, y, HB⟩ := hrel
  cases gk with
  | zero => exact absurd HA.out (by simp [spec_l4Store.l0])
  | succ k1 =>
   have H := HA.out
   clear HA
   simp only [spec_l4Store.l0] at H
   by_cases Y : s ≤ 7
   ·rw [if_pos Y] at H
    have aC : decide (s ≤ 7) = true := decide_eq_true Y
    clear Y
    replace H := Option.bind_eq_some_iff.mp H
    obtain ⟨G, ax, H⟩ := H
    try dsimp -simprocs only at H
    have A6 := am ax
    clear ax
    by_cases L : G.toList = ([] : List UInt8)
    ·rw [if_pos L] at H
     have aD : (G.toList == ([] : List UInt8)) = true := beq_iff_eq.mpr L
     have aE : (G.toList != ([] : List UInt8)) = false := bne_eq_false_iff_eq.mpr L
     clear L
     have H' := am H
     clear H
     obtain ⟨aM, aN⟩ := bc2 (w := wr) y.out
     have aQ := blk_frozen y.out
     go_wp2_with (first | ((with_reducible refine gc 21 rfl ?_); refine gl 13 Try.func21 #[.agg #[.slice M z.length O, .slice T D.length X], .int .i64 s] ?_; (with_reducible refine (spec_l4Seg.calls k1 _ _ z _ _ D s G _ ?ae ?af ?ag ?ah A6.out).mono ?_); (case ae => exact Kd.C_below ap.out (bs HB.out)); (case af => exact aq.out); (case ag => exact Kd.C_below ar.out (bs HB.out)); (case ah => exact au.out); rintro e w9 ⟨rfl, hb⟩; refine ⟨_, rfl, ?_⟩; replace I := rb I hb; replace y := bb y hb rfl; replace HB := hs HB hb; (try clear hb)))
     go_roundg k1
     case measure => have := ab.out; omega
     case rel => exact ⟨(J), (wrap64 (s + 1)), eqs, H', ⟨by have := ab.out; omega⟩, ⟨rl I.out⟩, ⟨bf y.out⟩, ⟨bs HB.out⟩⟩
    ·rw [if_neg L] at H
     have aD : (G.toList == ([] : List UInt8)) = false := beq_eq_false_iff_ne.mpr L
     have aE : (G.toList != ([] : List UInt8)) = true := bne_iff_ne.mpr L
     by_cases ac : J.length < 5864062014805
     ·rw [if_pos ac] at H
      have aG := am ac
      clear ac
      obtain ⟨ay, ai⟩ : ∃ y_ : List (S42), y_ = (J ++ [(⟨s, G⟩ : S42)]) := ⟨_, rfl⟩
      replace H : (spec_l4Store.l0 k1 ay (wrap64 (s + 1)) z D) = some r := by first | (rw [ai]; exact H) | exact H
      have aH := am ai
      clear ai
      have H' := am H
      clear H
      obtain ⟨aT, aU⟩ := bc2 (w := wr) y.out
      have aV := blk_frozen y.out
      go_wp2_with (first | ((with_reducible refine gc 21 rfl ?_); refine gl 13 Try.func21 #[.agg #[.slice M z.length O, .slice T D.length X], .int .i64 s] ?_; (with_reducible refine (spec_l4Seg.calls k1 _ _ z _ _ D s G _ ?ae ?af ?ag ?ah A6.out).mono ?_); (case ae => exact Kd.C_below ap.out (bs HB.out)); (case af => exact aq.out); (case ag => exact Kd.C_below ar.out (bs HB.out)); (case ah => exact au.out); rintro e aW ⟨rfl, hb⟩; refine ⟨_, rfl, ?_⟩; replace I := rb I hb; replace y := bb y hb rfl; replace HB := hs HB hb; (try clear hb)) | ((with_reducible refine gate_builtin (b := .append) (xs := #[.tmp 16, .tmp 20]) rfl ?_); at_builtin; refine Kd.R_append k42 (w0 := w) w.heap.size rfl (.tmp 16) (.tmp 20) 23 42 (.agg #[(.int .i64 0), (.string ⟨#[]⟩)]) 24 rfl Try.underlying23 info42 rfl (by decide) (by omega) u3 J (⟨s, G⟩ : S42) [.int .i64 s, .string G] (fun _ => True) (fun _ => False) rfl rfl ?aP (fun _ hk => hk.elim) ?aF ?aO ?aB ?aS ?aL ?_; (case aP => exact k42_mkM _ _ _ (⟨s, G⟩ : S42)); (case aB => exact (bs HB.out)); (case aF => exact (fun _ _ => trivial)); (case aO => exact (rl I.out)); (case aS => exact (below_size (bs HB.out))); (case aL => have := aG.out; omega); intro aX aY ho hb hg hat; rw [← aH.out] at ho; replace y := gr y I hg; replace HB := am hb; have aI := am ho; clear I; clear ho hb hg hat))
      go_roundg k1
      case measure => have := ab.out; omega
      case rel => exact ⟨(ay), (wrap64 (s + 1)), eqs, H', ⟨by have := ab.out; omega⟩, ⟨rl aI.out⟩, ⟨bf y.out⟩, ⟨bs HB.out⟩⟩
     ·rw [if_neg ac] at H
      exact absurd H (by simp)
   ·rw [if_neg Y] at H
    have aC : decide (s ≤ 7) = false := decide_eq_false Y
    clear Y
    obtain rfl := Option.some.inj H
    go_wp2
    go_ret
    exact ⟨_, eqr, by (with_reducible repeat (first | apply Kd.R_alloc | apply Kd.R_drewN | apply Kd.R_drew)); exact I.out, bs HB.out⟩

/-! ### spec_l2Copy: function 24 -/
def spec_l2Copy.f (s : List (S55)) (y : List (S57)) : Option ((List (S55)) × (List (S57))) := (some (([] : List (S55)) : List (S55))).bind fun z => (if z.length + s.length < 8796093022208 then ((some (([] : List (S57)) : List (S57))).bind fun D => (if D.length + y.length < 3518437208883 then (some ((z ++ s), (D ++ y))) else (none))) else (none))
def spec_l2Copy.T1 : Bool × List (List Nat × List Nat) := (true, [([], []), ([], []), ([1], [1]), ([0, 2], [0, 2]), ([], []), ([], []), ([5], [5]), ([4, 6, 3], [4, 6]), ([3, 7], [3, 7]), ([8, 7, 0, 1, 2, 3, 4, 5, 6, 7, 8], [8])])
def spec_l2Copy.B1 : List Nat := [0, 0, 2, 7, 0, 0, 32, 127, 255, 511]
theorem spec_l2Copy.tab1 : rtab .any (opsOf Try.f24 1) = spec_l2Copy.T1 := by kernel_rfl
theorem spec_l2Copy.bits1 : waitsOk spec_l2Copy.T1.2 spec_l2Copy.B1 = true := by kernel_rfl
theorem spec_l2Copy.calls (Y : Option Addr) (Z : Nat) (D : List (S55)) (aa : Option Addr) (ab : Nat) (z : List (S57)) (r1 : List (S55)) (r2 : List (S57)) (w : World) (aD : Kd.C k55 w Y D.length D) (aE : D.length ≤ Z) (aG : Kd.C k57 w aa z.length z) (aH : z.length ≤ ab) (h : spec_l2Copy.f D z = some (r1, r2)) :
  Calls Try.prog 24 #[.agg #[.slice Y D.length Z, .slice aa z.length ab]] w fun e w' => ∃ aI aJ : Value, e = .returned (.agg #[aI, aJ]) ∧ Kd.R k55 55 w' w.heap.size (fun _ => True) aI r1 ∧ Kd.R k57 57 w' w.heap.size (fun _ => True) aJ r2 ∧ Below w.heap.size w w' := by
 have hu38 := Try.underlying38
 have aq := am aD
 have bj := am aE
 clear aD aE
 have a8 := am aG
 have bk := am aH
 clear aG aH
 have HB := am (Below.refl w.heap.size w)
 have H := h; unfold spec_l2Copy.f at H
 clear h
 obtain ⟨af, ar⟩ : ∃ y_ : List (S55), y_ = (([] : List (S55))) := ⟨_, rfl⟩
 replace H : (if af.length + D.length < 8796093022208 then ((some (([] : List (S57)) : List (S57))).bind fun J => (if J.length + z.length < 3518437208883 then (some ((af ++ D), (J ++ z))) else (none))) else (none)) = some (r1, r2) := by first | (rw [ar]; exact H) | exact H
 have ap := am ar
 clear ar
 by_cases c2 : af.length + D.length < 8796093022208
 ·rw [if_pos c2] at H
  have au := am c2
  clear c2
  obtain ⟨ai, av⟩ : ∃ y_ : List (S55), y_ = (af ++ D) := ⟨_, rfl⟩
  replace H : ((some (([] : List (S57)) : List (S57))).bind fun J => (if J.length + z.length < 3518437208883 then (some (ai, (J ++ z))) else (none))) = some (r1, r2) := by first | (rw [av]; exact H) | exact H
  have aw := am av
  clear av
  obtain ⟨J, ax⟩ : ∃ y_ : List (S57), y_ = (([] : List (S57))) := ⟨_, rfl⟩
  replace H : (if J.length + z.length < 3518437208883 then (some (ai, (J ++ z))) else (none)) = some (r1, r2) := by first | (rw [ax]; exact H) | exact H
  have aj := am ax
  clear ax
  by_cases c3 : J.length + z.length < 3518437208883
  ·rw [if_pos c3] at H
   have a9 := am c3
   clear c3
   obtain ⟨aK, ay⟩ : ∃ y_ : List (S57), y_ = (J ++ z) := ⟨_, rfl⟩
   replace H : (some (ai, aK)) = some (r1, r2) := by first | (rw [ay]; exact H) | exact H
   have ba := am ay
   clear ay
   simp only [Option.some.injEq, Prod.mk.injEq] at H
   obtain ⟨rfl, rfl⟩ := H
   go_enter Try.func24, Try.ntmps24
   try go_wp2_with (first | ((with_reducible refine gd 1 rfl ?_); refine bx 1 (cs := #[.slice Y D.length Z, .slice aa z.length ab]) (t := 38) ?_; intro ac hg w4 hbox hb; have s := am hbox; have bl := gwb HB hg; replace HB := hs HB hb; clear hb hbox hg) | ((with_reducible refine gd 2 rfl ?_); refine bx 2 (cs := #[.slice none 0 0, .slice none 0 0]) (t := 38) ?_; intro X hg w5 hbox hb; have y := am hbox; have bm := gwb HB hg; replace HB := hs HB hb; have ak := nq s hg; have aM := nq' s hg; replace s := bb s hb rfl; clear hb hbox hg))
   replace s := bd s
   replace y := bd y
   replace HB := hd HB
   refine sta 10 (fun w' => w'.cell? ⟨ac, 0, none⟩ = some (.slice Y D.length Z) ∧ w'.cell? ⟨ac, 1, none⟩ = some (.slice aa z.length ab)) [] ⟨cx s 0, cx s 1⟩ (fun hHeld => ?_); refine with_tabW spec_l2Copy.tab1 spec_l2Copy.bits1 (fun HT_ HW_ => ?_)
   generalize w5.drew = w6 at s y HB hHeld ⊢
   refine pu 1 4 ?_
   refine pu 5 8 ?_
   refine tk 2 5 ?_
   refine tk 6 9 ?_
   refine join_ (σ := Value × Value × Value) 3 #[true, true, true, true, true, true, true, false, false, false] (fun s_ => [(3, s_.1), (6, s_.2.1), (7, s_.2.2)]) (fun s_ w' => (w'.cell? ⟨ac, 0, none⟩ = some (.slice Y D.length Z) ∧ w'.cell? ⟨ac, 1, none⟩ = some (.slice aa z.length ab)) ∧ (Kd.R k55 55 w' w.heap.size (fun _ => True) s_.2.1 ai) ∧ (Kd.R k57 57 w' w.heap.size (fun _ => True) s_.2.2 J) ∧ (w'.heap[ac]? = some (.cells #[.slice Y D.length Z, .slice aa z.length ab] 38 (0, 0))) ∧ (w'.heap[X]? = some (.cells #[.slice none 0 0, .slice none 0 0] 38 (0, 0))) ∧ (Below w.heap.size w w')) ?_ ?_
   rotate_left
   ·intro hCont
    refine two_ (i := 0) (j := 4) (Ni := some 3) (Nj := some 7) #[true, true, true, false, false, true, true, false, false, false] #[false, true, true, false, true, true, true, false, false, false] rfl rfl rfl rfl (two_of HT_.out (by kernel_rfl)) (by decide) (by decide) (fun K hK => ?_) (fun K hK => ?_)
    ·skip
     refine Kd.R_lit_step k55 _ 55 ?hg (N := 3) ?hd (xs := ([] : List (S55))) (inner := []) (ok := fun _ => True) (okp := fun _ => True) ?hr ?hp (fun _ hk => hk) trivial (Below.refl _ _) (Nat.le_refl _) (by simp) ?_; (case hd => rfl); (case hg => rfl); (case hr => first | (go_simp; done) | (go_simp; rfl)); (case hp => exact (Reps.none _ _))
     intro ad w7 M hb hg_ hnew_
     clear hg_ hnew_
     (first | rw [← ap.out] at M | (simp only [Int.reduceToNat] at M; rw [← ap.out] at M))
     have G := am (Kd.R_lower M (below_size (bs HB.out)))
     replace s := bb s hb rfl
     replace y := bb y hb rfl
     replace HB := hs HB hb
     clear hb M
     refine hK.out _ _ ⟨cx s 0, cx s 1⟩ (fun hHeld => ?_)
     clear hK K
     refine nrm 3 ?_
     refine two_ (i := 3) (j := 4) (Ni := some 6) (Nj := some 7) #[true, true, true, true, false, true, true, false, false, false] #[true, true, true, false, true, true, true, false, false, false] rfl rfl rfl rfl (two_of HT_.out (by kernel_rfl)) (by decide) (by decide) (fun K hK => ?_) (fun K hK => ?_)
     ·skip
      refine Kd.R_append_rows_step k55 (w0 := w) w.heap.size (by rfl) (.tmp 3) (.tmp 5) 35 55 (.agg #[(.int .i64 0), (.int .i64 0)]) 16 rfl Try.underlying35 info55 rfl (by decide) (by omega) ad af D _ _ _ (fun _ => True) (fun _ => False) rfl rfl ?aO ?aR (fun _ _ h => h) (fun _ h => h.elim) ?aF ?aB ?aS ?aL ?_
      (case aR => exact Kd.C_below aq.out (bs HB.out))
      (case aB => exact (bs HB.out))
      (case aF => exact (fun _ _ => trivial))
      (case aO => exact (rl G.out))
      (case aS => exact (below_size (bs HB.out)))
      (case aL => have := au.out; omega)
      intro ag w9 ho hb hg hat
      rw [← aw.out] at ho
      replace s := gr s G hg
      replace y := gr y G hg
      replace HB := am hb
      have L := am ho
      clear G
      clear ho hb hg hat
      refine hK.out _ _ ⟨cx s 0, cx s 1⟩ (fun hHeld => ?_)
      clear hK K
      refine nrm 6 ?_
      refine on 4 7 (fun K hK => ?_)
      refine Kd.R_lit_step k57 _ 57 ?hg (N := 7) ?hd (xs := ([] : List (S57))) (inner := []) (ok := fun _ => True) (okp := fun _ => True) ?hr ?hp (fun _ hk => hk) trivial (Below.refl _ _) (Nat.le_refl _) (by simp) ?_; (case hd => rfl); (case hg => rfl); (case hr => first | (go_simp; done) | (go_simp; rfl)); (case hp => exact (Reps.none _ _))
      intro ae bn al hb hg_ hnew_
      clear hg_ hnew_
      (first | rw [← aj.out] at al | (simp only [Int.reduceToNat] at al; rw [← aj.out] at al))
      replace L := rb L hb
      have I := am (Kd.R_lower al (below_size (bs HB.out)))
      replace s := bb s hb rfl
      replace y := bb y hb rfl
      replace HB := hs HB hb
      clear hb al
      refine hK.out _ _ ⟨cx s 0, cx s 1⟩ (fun hHeld => ?_)
      clear hK K
      refine nrm 7 ?_
      exact norm_ (by simp only [putAll, Act.put, List.setIfInBounds_toArray, List.set_cons_zero, List.set_cons_succ]) (hCont (ad, ag, ae) _ ⟨hHeld, (rl L.out), (rl I.out), (bf s.out), (bf y.out), (bs HB.out)⟩)
     ·skip
      refine Kd.R_lit_step k57 _ 57 ?hg (N := 7) ?hd (xs := ([] : List (S57))) (inner := []) (ok := fun _ => True) (okp := fun _ => True) ?hr ?hp (fun _ hk => hk) trivial (Below.refl _ _) (Nat.le_refl _) (by simp) ?_; (case hd => rfl); (case hg => rfl); (case hr => first | (go_simp; done) | (go_simp; rfl)); (case hp => exact (Reps.none _ _))
      intro ae w9 O hb hg_ hnew_
      clear hg_ hnew_
      (first | rw [← aj.out] at O | (simp only [Int.reduceToNat] at O; rw [← aj.out] at O))
      replace G := rb G hb
      have I := am (Kd.R_lower O (below_size (bs HB.out)))
      replace s := bb s hb rfl
      replace y := bb y hb rfl
      replace HB := hs HB hb
      clear hb O
      refine hK.out _ _ ⟨cx s 0, cx s 1⟩ (fun hHeld => ?_)
      clear hK K
      refine nrm 7 ?_
      refine on 3 6 (fun K hK => ?_)
      refine Kd.R_append_rows_step k55 (w0 := w) w.heap.size (by rfl) (.tmp 3) (.tmp 5) 35 55 (.agg #[(.int .i64 0), (.int .i64 0)]) 16 rfl Try.underlying35 info55 rfl (by decide) (by omega) ad af D _ _ _ (fun _ => True) (fun _ => False) rfl rfl ?aO ?aR (fun _ _ h => h) (fun _ h => h.elim) ?aF ?aB ?aS ?aL ?_
      (case aR => exact Kd.C_below aq.out (bs HB.out))
      (case aB => exact (bs HB.out))
      (case aF => exact (fun _ _ => trivial))
      (case aO => exact (rl G.out))
      (case aS => exact (below_size (bs HB.out)))
      (case aL => have := au.out; omega)
      intro ag bc ho hb hg hat
      rw [← aw.out] at ho
      replace s := gr s G hg
      replace y := gr y G hg
      replace I := am (Kd.R_over' (rl I.out) (Kd.R_typed (rl G.out)) (by decide) hg)
      replace HB := am hb
      have L := am ho
      clear G
      clear ho hb hg hat
      refine hK.out _ _ ⟨cx s 0, cx s 1⟩ (fun hHeld => ?_)
      clear hK K
      refine nrm 6 ?_
      exact norm_ (by simp only [putAll, Act.put, List.setIfInBounds_toArray, List.set_cons_zero, List.set_cons_succ]) (hCont (ad, ag, ae) _ ⟨hHeld, (rl L.out), (rl I.out), (bf s.out), (bf y.out), (bs HB.out)⟩)
    ·skip
     refine Kd.R_lit_step k57 _ 57 ?hg (N := 7) ?hd (xs := ([] : List (S57))) (inner := []) (ok := fun _ => True) (okp := fun _ => True) ?hr ?hp (fun _ hk => hk) trivial (Below.refl _ _) (Nat.le_refl _) (by simp) ?_; (case hd => rfl); (case hg => rfl); (case hr => first | (go_simp; done) | (go_simp; rfl)); (case hp => exact (Reps.none _ _))
     intro ae w7 M hb hg_ hnew_
     clear hg_ hnew_
     (first | rw [← aj.out] at M | (simp only [Int.reduceToNat] at M; rw [← aj.out] at M))
     have I := am (Kd.R_lower M (below_size (bs HB.out)))
     replace s := bb s hb rfl
     replace y := bb y hb rfl
     replace HB := hs HB hb
     clear hb M
     refine hK.out _ _ ⟨cx s 0, cx s 1⟩ (fun hHeld => ?_)
     clear hK K
     refine nrm 7 ?_
     refine on 0 3 (fun K hK => ?_)
     refine Kd.R_lit_step k55 _ 55 ?hg (N := 3) ?hd (xs := ([] : List (S55))) (inner := []) (ok := fun _ => True) (okp := fun _ => True) ?hr ?hp (fun _ hk => hk) trivial (Below.refl _ _) (Nat.le_refl _) (by simp) ?_; (case hd => rfl); (case hg => rfl); (case hr => first | (go_simp; done) | (go_simp; rfl)); (case hp => exact (Reps.none _ _))
     intro ad w9 O hb hg_ hnew_
     clear hg_ hnew_
     (first | rw [← ap.out] at O | (simp only [Int.reduceToNat] at O; rw [← ap.out] at O))
     replace I := rb I hb
     have G := am (Kd.R_lower O (below_size (bs HB.out)))
     replace s := bb s hb rfl
     replace y := bb y hb rfl
     replace HB := hs HB hb
     clear hb O
     refine hK.out _ _ ⟨cx s 0, cx s 1⟩ (fun hHeld => ?_)
     clear hK K
     refine nrm 3 ?_
     refine on 3 6 (fun K hK => ?_)
     refine Kd.R_append_rows_step k55 (w0 := w) w.heap.size (by rfl) (.tmp 3) (.tmp 5) 35 55 (.agg #[(.int .i64 0), (.int .i64 0)]) 16 rfl Try.underlying35 info55 rfl (by decide) (by omega) ad af D _ _ _ (fun _ => True) (fun _ => False) rfl rfl ?aO ?aR (fun _ _ h => h) (fun _ h => h.elim) ?aF ?aB ?aS ?aL ?_
     (case aR => exact Kd.C_below aq.out (bs HB.out))
     (case aB => exact (bs HB.out))
     (case aF => exact (fun _ _ => trivial))
     (case aO => exact (rl G.out))
     (case aS => exact (below_size (bs HB.out)))
     (case aL => have := au.out; omega)
     intro ag bc ho hb hg hat
     rw [← aw.out] at ho
     replace s := gr s G hg
     replace y := gr y G hg
     replace I := am (Kd.R_over' (rl I.out) (Kd.R_typed (rl G.out)) (by decide) hg)
     replace HB := am hb
     have L := am ho
     clear G
     clear ho hb hg hat
     refine hK.out _ _ ⟨cx s 0, cx s 1⟩ (fun hHeld => ?_)
     clear hK K
     refine nrm 6 ?_
     exact norm_ (by simp only [putAll, Act.put, List.setIfInBounds_toArray, List.set_cons_zero, List.set_cons_succ]) (hCont (ad, ag, ae) _ ⟨hHeld, (rl L.out), (rl I.out), (bf s.out), (bf y.out), (bs HB.out)⟩)
   rintro ⟨ad, ag, ae⟩ ah ⟨hS_, aN, aQ, aT, aU, aV⟩
   have aW : Aside0 (Kd.R k55 55 ah w.heap.size (fun _ => True) ag ai) := ⟨aN⟩
   have aX : Aside0 (Kd.R k57 57 ah w.heap.size (fun _ => True) ae J) := ⟨aQ⟩
   have aY : Aside0 (ah.heap[ac]? = some (.cells #[.slice Y D.length Z, .slice aa z.length ab] 38 (0, 0))) := ⟨aT⟩
   have aZ : Aside0 (ah.heap[X]? = some (.cells #[.slice none 0 0, .slice none 0 0] 38 (0, 0))) := ⟨aU⟩
   have a3 : Aside0 (Below w.heap.size w ah) := ⟨aV⟩
   clear s
   clear y
   clear HB
   clear aN aQ aT aU aV
   have L := aW
   have I := aX
   have s := aY
   have y := aZ
   have HB := a3
   clear aW aX aY aZ a3
   have hHeld : ah.cell? ⟨ac, 0, none⟩ = some (.slice Y D.length Z) ∧ ah.cell? ⟨ac, 1, none⟩ = some (.slice aa z.length ab) := hS_
   refine norm_ (a' := ?_) ?_ ?_
   rotate_left
   ·simp only [putAll, Act.put, List.setIfInBounds_toArray, List.set_cons_zero, List.set_cons_succ]
    rfl
   refine on 7 10 (fun K hK => ?_)
   refine Kd.R_append_rows_step k57 (w0 := w) w.heap.size (by rfl) (.tmp 7) (.tmp 9) 36 57 (.agg #[(.int .i64 0), (.int .i64 0), (.int .i64 0), (.int .i64 0), (.int .i64 0)]) 40 rfl Try.underlying36 info57 rfl (by decide) (by omega) ae J z _ _ _ (fun _ => True) (fun _ => False) rfl rfl ?aO ?aR (fun _ _ h => h) (fun _ h => h.elim) ?aF ?aB ?aS ?aL ?_
   (case aR => exact Kd.C_below a8.out (bs HB.out))
   (case aB => exact (bs HB.out))
   (case aF => exact (fun _ _ => trivial))
   (case aO => exact (rl I.out))
   (case aS => exact (below_size (bs HB.out)))
   (case aL => have := a9.out; omega)
   intro bo a4 ho hb hg hat
   rw [← ba.out] at ho
   replace s := gr s I hg
   replace y := gr y I hg
   replace L := am (Kd.R_over' (rl L.out) (Kd.R_typed (rl I.out)) (by decide) hg)
   replace HB := am hb
   have a5 := am ho
   clear I
   clear ho hb hg hat
   obtain ⟨be, bg, a6⟩ := Kd.R_slice a5.out
   (first | subst a6 | (injection a6 with an az ao; have aA := an.symm; have aC := ao.symm; clear an az ao; subst aA; subst aC))
   obtain ⟨bh, bi, a7⟩ := Kd.R_slice L.out
   (first | subst a7 | (injection a7 with an az ao; have aA := an.symm; have aC := ao.symm; clear an az ao; subst aA; subst aC))
   refine hK.out _ _ ⟨cx s 0, cx s 1⟩ (fun hHeld => ?_)
   clear hK K
   refine nrm 10 ?_
   refine pu 8 11 ?_
   refine on0 9 (fun K hK => ?_)
   have br : a4.cell? ⟨X, 0, none⟩ = some (.slice none 0 0) := cx y 0
   have bt := blk_frozen y.out 0
   have bu := ak.out
   have bv := aM.out
   have bw : a4.cell? ⟨X, 1, none⟩ = some (.slice none 0 0) := cx y 1
   have bz := blk_frozen y.out 1
   have bA := ak.out
   have bB := aM.out
   refine sk ?_
   refine hK.out _ _ ⟨((cell_far (p := ⟨X, _, none⟩) ak.out _).trans (((cell_far (p := ⟨X, _, none⟩) ak.out _).trans (hHeld.1)))), ((cell_far (p := ⟨X, _, none⟩) ak.out _).trans (((cell_far (p := ⟨X, _, none⟩) ak.out _).trans (hHeld.2))))⟩ (fun hHeld => ?_)
   clear hK K
   refine dn ?_
   try go_wp2
   refine bodyPost_ret (results_cell_row rfl _ _ X 38 #[.slice bh ai.length bi, .slice be aK.length bg] (0, 0) _ rfl (bp y.out rfl) Try.underlying38 rfl (by kernel_rfl)) rfl ?_
   exact ⟨_, _, eqr, Kd.R_mono (rt L.out y.out (by decide)) (fun _ hk => trivial), Kd.R_mono (rt a5.out y.out (by decide)) (fun _ hk => trivial), bs HB.out⟩
  ·rw [if_neg c3] at H
   exact absurd H (by simp)
 ·rw [if_neg c2] at H
  exact absurd H (by simp)

end Go.Proofs.Ytkbamcicbofjbaa.QFnStoreNarrow
