/- Contracts of the Go functions that this law reaches: each does what its plain Lean function says. No condition. -/
import Derived.Test.YtohmemckdogljaaQFnExactGraphDox0
import Derived.Test.YtohmemckdogljaaQFnExactGraphDox1
namespace Go.Proofs.Ytohmemckdogljaa.QFnExactGraphDo
open Go.RowKit Go.Proofs.YtohmemckdogljaaW.PrintWords Go.Proofs.YtohmemckdogljaaW.PrintLast Go.Proofs.YtohmemckdogljaaW.PrintMore Go.Proofs.Ytohmemckdogljaa.Bl
attribute [local go_sem] max2_int min2_int max_two min_two max_three min_three max_four min_four   -- for this text's walks alone
set_option linter.unusedVariables false
set_option linter.unusedSimpArgs false
set_option maxHeartbeats 8000000
set_option maxRecDepth 100000

attribute [local go_sem high] eqA36
/-! ### spec_l2Off: function 126 -/
mutual
def spec_l2Off.l0 : Nat → Int → List (S36) → List (S56) → Int → Int → List (S36) → List (S56) → Option ((List (S36)) × (List (S56)))
 | 0, _, _, _, _, _, _, _ => none
 | k + 1, s, y, I, z, D, G, J => if s < (y.length : Int) then (if 0 ≤ s then (if (!(((rd_T36 y s).f0) == z) || (!(((rd_T36 y s).f1) == D))) = true then (if G.length < 8796093022208 then (spec_l2Off.l0 k (wrap64 (s + 1)) y I z D (G ++ [(⟨(rd_T36 y s).f0, (rd_T36 y s).f1⟩ : S36)]) J) else (none)) else (spec_l2Off.l0 k (wrap64 (s + 1)) y I z D G J)) else (none)) else (spec_l2Off.l1 k 0 y I z D G J)
def spec_l2Off.l1 : Nat → Int → List (S36) → List (S56) → Int → Int → List (S36) → List (S56) → Option ((List (S36)) × (List (S56)))
 | 0, _, _, _, _, _, _, _ => none
 | k + 1, s, J, y, z, D, I, G => if s < (y.length : Int) then (if 0 ≤ s then (if (!(((rd_T56 y s).f1.f0) == z) || (!(((rd_T56 y s).f1.f1) == D))) = true then (if (!(((rd_T56 y s).f2.f0) == z) || (!(((rd_T56 y s).f2.f1) == D))) = true then (if G.length < 3518437208883 then (spec_l2Off.l1 k (wrap64 (s + 1)) J y z D I (G ++ [(⟨(rd_T56 y s).f0, (⟨(rd_T56 y s).f1.f0, (rd_T56 y s).f1.f1⟩ : S36), (⟨(rd_T56 y s).f2.f0, (rd_T56 y s).f2.f1⟩ : S36)⟩ : S56)])) else (none)) else (spec_l2Off.l1 k (wrap64 (s + 1)) J y z D I G)) else (spec_l2Off.l1 k (wrap64 (s + 1)) J y z D I G)) else (none)) else (some (I, G))
end
def spec_l2Off.f (k : Nat) (s : List (S36)) (y : List (S56)) (z : Int) (D : Int) : Option ((List (S36)) × (List (S56))) := spec_l2Off.l0 k 0 s y z D (([] : List (S36))) (([] : List (S56)))
def spec_l2Off.T6 : Bool × List (List Nat × List Nat) := (true, [([], []), ([0], [0]), ([], []), ([2], [2]), ([], []), ([3, 4], [3, 4]), ([5], [5]), ([6], [6]), ([1, 7], [1, 7]), ([0, 1, 2, 3, 4, 5, 6, 7, 8], []), ([9, 8, 8, 0, 1, 2, 3, 4, 5, 6, 7, 8], [8, 9])])
def spec_l2Off.B6 : List Nat := [0, 1, 0, 4, 0, 28, 60, 124, 255, 511, 1023]
theorem spec_l2Off.tab6 : rtab .any (opsOf Try.f126 6) = spec_l2Off.T6 := by kernel_rfl
theorem spec_l2Off.bits6 : waitsOk spec_l2Off.T6.2 spec_l2Off.B6 = true := by kernel_rfl
def spec_l2Off.T10 : Bool × List (List Nat × List Nat) := (true, [([], []), ([0], [0]), ([], []), ([1, 2], [1, 2]), ([3], [3]), ([4], [4]), ([], []), ([5, 6], [5, 6]), ([7], [7]), ([8], [8]), ([9, 8], [8, 9]), ([8], [8]), ([10, 11, 8], [8, 10, 11]), ([12, 8], [8, 12]), ([13, 8], [8, 13]), ([8], [8]), ([14, 15, 8], [8, 14, 15]), ([8, 16], [8, 16])])
def spec_l2Off.B10 : List Nat := [0, 1, 0, 7, 15, 31, 0, 127, 255, 511, 1023, 511, 4095, 8191, 16383, 511, 65535, 131071]
theorem spec_l2Off.tab10 : rtab .any (opsOf Try.f126 10) = spec_l2Off.T10 := by kernel_rfl
theorem spec_l2Off.bits10 : waitsOk spec_l2Off.T10.2 spec_l2Off.B10 = true := by kernel_rfl
def spec_l2Off.T11 : Bool × List (List Nat × List Nat) := (true, [([], []), ([0], [0]), ([], []), ([2], [2]), ([], []), ([3, 4], [3, 4]), ([5], [5]), ([6], [6]), ([1, 7], [1, 7]), ([0, 1, 2, 3, 4, 5, 6, 7, 8], []), ([9, 8, 8, 0, 1, 2, 3, 4, 5, 6, 7, 8], [8, 9])])
def spec_l2Off.B11 : List Nat := [0, 1, 0, 4, 0, 28, 60, 124, 255, 511, 1023]
theorem spec_l2Off.tab11 : rtab .any (opsOf Try.f126 11) = spec_l2Off.T11 := by kernel_rfl
theorem spec_l2Off.bits11 : waitsOk spec_l2Off.T11.2 spec_l2Off.B11 = true := by kernel_rfl
theorem spec_l2Off.calls (k : Nat) (ax : Option Addr) (ai : Nat) (M : List (S36)) (aH : Option Addr) (aj : Nat) (y : List (S56)) (Y : Int) (Z : Int) (r1 : List (S36)) (r2 : List (S56)) (w : World) (ci : Kd.C k36 w ax M.length M) (cj : M.length ≤ ai) (ck : Kd.C k56 w aH y.length y) (cl : y.length ≤ aj) (h : spec_l2Off.f k M y Y Z = some (r1, r2)) :
  Calls Try.prog 126 #[.agg #[.slice ax M.length ai, .slice aH y.length aj], .agg #[.int .i64 Y, .int .i64 Z]] w fun e w' => ∃ cm cn : Value, e = .returned (.agg #[cm, cn]) ∧ Kd.R k36 36 w' w.heap.size (fun _ => True) cm r1 ∧ Kd.R k56 56 w' w.heap.size (fun _ => True) cn r2 ∧ Below w.heap.size w w' := by
 have hu34 := Try.underlying34
 have hu36 := Try.underlying36
 have hu56 := Try.underlying56
 have bK := am ci
 have du := am cj
 clear ci cj
 have aX := am ck
 have dv := am cl
 clear ck cl
 have HB := am (Below.refl w.heap.size w)
 have H := h; unfold spec_l2Off.f at H
 clear h
 obtain ⟨a7, bL⟩ : ∃ y_ : List (S36), y_ = (([] : List (S36))) := ⟨_, rfl⟩
 replace H : (spec_l2Off.l0 k 0 M y Y Z a7 (([] : List (S56)))) = some (r1, r2) := by first | (rw [bL]; exact H) | exact H
 have co := am bL
 clear bL
 obtain ⟨ap, bM⟩ : ∃ y_ : List (S56), y_ = (([] : List (S56))) := ⟨_, rfl⟩
 replace H : (spec_l2Off.l0 k 0 M y Y Z a7 ap) = some (r1, r2) := by first | (rw [bM]; exact H) | exact H
 have cp := am bM
 clear bM
 have H' := am H
 clear H
 go_enter Try.func126, Try.ntmps126
 go_wp2_with (first | ((with_reducible refine gd 2 rfl ?_); refine bx 2 (cs := #[.slice ax M.length ai, .slice aH y.length aj]) (t := 34) ?_; intro ab hg w3 hbox hb; have z := am hbox; have dw := gwb HB hg; replace HB := hs HB hb; clear hb hbox hg) | ((with_reducible refine gd 3 rfl ?_); refine bx 3 (cs := #[.int .i64 Y, .int .i64 Z]) (t := 36) ?_; intro aa hg w4 hbox hb; have J := am hbox; have dx := gwb HB hg; replace HB := hs HB hb; have aM := nq z hg; have aN := nq' z hg; replace z := bb z hb rfl; clear hb hbox hg) | ((with_reducible refine gd 4 rfl ?_); refine bx 4 (cs := #[.slice none 0 0, .slice none 0 0]) (t := 34) ?_; intro bN hg w5 hbox hb; have O := am hbox; have dy := gwb HB hg; replace HB := hs HB hb; have aQ := nq z hg; have aR := nq' z hg; replace z := bb z hb rfl; have cG := nq J hg; have cH := nq' J hg; replace J := bb J hb rfl; clear hb hbox hg) | ((with_reducible refine gd 8 rfl ?_); refine Kd.R_lit k36 _ 36 ?hg (N := 8) ?hd (xs := ([] : List (S36))) (inner := []) (ok := fun _ => True) (okp := fun _ => True) ?hr ?hp (fun _ hk => hk) trivial (Below.refl _ _) (Nat.le_refl _) (by simp) ?_; (case hd => rfl); (case hg => rfl); (case hr => first | (go_simp; done) | (go_simp; rfl)); (case hp => exact (Reps.none _ _)); intro dz w6 a8 hb hg_ hnew_; clear hg_ hnew_; (first | rw [← co.out] at a8 | (simp only [Int.reduceToNat] at a8; rw [← co.out] at a8)); have aY := am (Kd.R_lower (Kd.R_newB a8 (g := aa) (o := .cells #[.int .i64 Y, .int .i64 Z] 36 (0, 0)) (bf J.out)) (below_size (bs HB.out))); replace z := bb z hb rfl; replace J := bb J hb rfl; replace O := bb O hb rfl; replace HB := hs HB hb; clear hb a8) | ((with_reducible refine gd 9 rfl ?_); refine Kd.R_lit k56 _ 56 ?hg (N := 9) ?hd (xs := ([] : List (S56))) (inner := []) (ok := fun _ => True) (okp := fun _ => True) ?hr ?hp (fun _ hk => hk) trivial (Below.refl _ _) (Nat.le_refl _) (by simp) ?_; (case hd => rfl); (case hg => rfl); (case hr => first | (go_simp; done) | (go_simp; rfl)); (case hp => exact (Reps.none _ _)); intro dA w8 a9 hb hg_ hnew_; clear hg_ hnew_; (first | rw [← cp.out] at a9 | (simp only [Int.reduceToNat] at a9; rw [← cp.out] at a9)); replace aY := rb aY hb; have bu := am (Kd.R_lower a9 (below_size (bs HB.out))); replace z := bb z hb rfl; replace J := bb J hb rfl; replace O := bb O hb rfl; replace HB := hs HB hb; clear hb a9; obtain ⟨ba, bc, cI⟩ := Kd.R_slice bu.out; subst cI; obtain ⟨ct, cu, cJ⟩ := Kd.R_slice aY.out; subst cJ) | ((with_reducible refine gd 5 rfl ?_); refine bx 5 (cs := #[.slice none 0 0, .slice none 0 0]) (t := 34) ?_; intro aI hg cK hbox hb; replace aY := rb aY hb; replace bu := rb bu hb; have I := am hbox; have dB := gwb HB hg; replace HB := hs HB hb; have aq := nq z hg; have ar := nq' z hg; replace z := bb z hb rfl; have bv := nq J hg; have bw := nq' J hg; replace J := bb J hb rfl; have bz := nq O hg; have bA := nq' O hg; replace O := bb O hb rfl; clear hb hbox hg; have dC := ar.out; have dD := aq.out; have dE := bw.out; have dF := bv.out; have dG := bA.out; have dH := bz.out; obtain ⟨cv, cy⟩ := bc2 (w := cK) I.out; have cz := blk_frozen I.out))
 go_loopg [6] k (fun kq v6 w' => ∃ (L : Int) (al : List (S36)) (ak : Value), v6 = .int .i64 L ∧ Aside0 (spec_l2Off.l0 kq L M y Y Z al ap = some (r1, r2)) ∧ Aside0 (kq ≤ k) ∧ Aside0 (Kd.R k36 36 w' w.heap.size (fun k_ => k_ ≠ aa) ak al) ∧ Aside0 (Kd.R k56 56 w' w.heap.size (fun _ => True) (.slice ba ap.length bc) ap) ∧ Aside0 (w'.heap[ab]? = some (.cells #[(.slice ax M.length ai), (.slice aH y.length aj)] 34 (0, 0))) ∧ Aside0 (w'.heap[aa]? = some (.cells #[.int .i64 Y, .int .i64 Z] 36 (0, 0))) ∧ Aside0 (w'.heap[bN]? = some (.cells #[(.slice none 0 0), (.slice none 0 0)] 34 (0, 0))) ∧ Aside0 (w'.heap[aI]? = some (.cells #[ak, (.slice ba ap.length bc)] 34 (0, 0))) ∧ Aside0 (Below w.heap.size w w'))
 case atStart => exact ⟨(0), (a7), (.slice ct a7.length cu), eqs, H', ⟨Nat.le_refl _⟩, ⟨Kd.R_mono (rt aY.out I.out (by decide)) (fun _ hk => hk.2)⟩, ⟨Kd.R_mono (rt bu.out I.out (by decide)) (fun _ hk => trivial)⟩, ⟨bf z.out⟩, ⟨bf J.out⟩, ⟨bf O.out⟩, ⟨by (with_reducible repeat (first | refine blk_drewN ?_ _ | refine blk_drew ?_ | refine blk_alloc ?_ _)); refine blk_put (cs := #[.slice ct a7.length cu, .slice none 0 0]) ?_ 1 _ rfl; (with_reducible repeat (first | refine blk_drewN ?_ _ | refine blk_drew ?_ | refine blk_alloc ?_ _)); refine blk_put (cs := #[.slice none 0 0, .slice none 0 0]) ?_ 0 _ rfl; exact bf I.out⟩, ⟨bs HB.out⟩⟩
 case round =>
  clear H'
  try clear c1
  try clear p2
  try clear cL
  try clear cM
  try clear cN
  try clear cO
  try clear cv cy
  try clear cz
  obtain ⟨L, al, ak, rfl, HA, au, T, X, z, J, O, I, HB⟩ := hrel
  cases gk with
  | zero => exact absurd HA.out (by simp [spec_l2Off.l0])
  | succ k1 =>
   have H := HA.out
   clear HA
   simp only [spec_l2Off.l0] at H
   by_cases aT : L < (M.length : Int)
   ·rw [if_pos aT] at H
    have cA : decide (L < (M.length : Int)) = true := decide_eq_true aT
    clear aT
    by_cases be : 0 ≤ L
    ·rw [if_pos be] at H
     have cP : decide (0 ≤ L) = true := decide_eq_true be
     clear be
     by_cases aU : (!(((rd_T36 M L).f0) == Y) || (!(((rd_T36 M L).f1) == Z))) = true
     ·rw [if_pos aU] at H
      have cB : (!(((rd_T36 M L).f0) == Y) || (!(((rd_T36 M L).f1) == Z))) = true := aU
      clear aU
      by_cases bg : al.length < 8796093022208
      ·rw [if_pos bg] at H
       have cQ := am bg
       clear bg
       obtain ⟨bO, bP⟩ : ∃ y_ : List (S36), y_ = (al ++ [(⟨(rd_T36 M L).f0, (rd_T36 M L).f1⟩ : S36)]) := ⟨_, rfl⟩
       replace H : (spec_l2Off.l0 k1 (wrap64 (L + 1)) M y Y Z bO ap) = some (r1, r2) := by first | (rw [bP]; exact H) | exact H
       have cR := am bP
       clear bP
       have H' := am H
       clear H
       have dI := aM.out
       have dJ := aN.out
       have dK := aQ.out
       have dL := aR.out
       have dM := aq.out
       have dN := ar.out
       obtain ⟨cS, cT⟩ := bc2 (w := wr) z.out
       have cU := blk_frozen z.out
       try go_wp2
       replace T := rd_ T
       replace X := rd_ X
       replace z := bd z
       replace J := bd J
       replace O := bd O
       replace I := bd I
       replace HB := hd HB
       have aJ : 0 ≤ (L : Int) := oda
       have aK : L < (M.length : Int) := oda
       obtain ⟨ac, bQ, av, aw⟩ := at_T36 bK.out L aJ aK
       have bR := aw
       have bS := av
       cases bQ
       replace av := cb HB av
       replace aw := cb HB aw
       replace aJ := eq_true aJ
       replace aK := eq_true aK
       refine sta 7 (fun w' => w'.cell? ⟨ab, 0, none⟩ = some (.slice (some ac) M.length ai) ∧ w'.cell? ⟨ab, 1, none⟩ = some (.slice aH y.length aj) ∧ w'.cell? ⟨aa, 0, none⟩ = some (.int .i64 Y) ∧ w'.cell? ⟨aa, 1, none⟩ = some (.int .i64 Z) ∧ w'.cell? (ac.add ((L).toNat * 2)) = some (.int .i64 ((rd_T36 M L).f0)) ∧ w'.cell? ⟨(ac.add ((L).toNat * 2)).block, (ac.add ((L).toNat * 2)).off + 1, none⟩ = some (.int .i64 ((rd_T36 M L).f1))) [] ⟨cx z 0, cx z 1, cx J 0, cx J 1, (cb HB bS), (cb HB bR)⟩ (fun hHeld => ?_)
       generalize wr.drew = cV at T X z J O I HB av aw hHeld ⊢
       refine pu 0 18 ?_
       refine pu 2 20 ?_
       refine tk 1 19 ?_
       refine pu 3 21 ?_
       refine tk 4 22 ?_
       refine tk 5 23 ?_
       refine pu 6 24 ?_
       refine dn ?_
       try go_wp2
       replace T := rd_ T
       replace X := rd_ X
       replace z := bd z
       replace J := bd J
       replace O := bd O
       replace I := bd I
       replace HB := hd HB
       have bB : 0 ≤ (L : Int) := oda
       have bC : L < (M.length : Int) := oda
       obtain ⟨cW, cX, bh, bi⟩ := at_T36 bK.out L bB bC
       have bT := bi
       have bU := bh
       obtain rfl : ac = cW := (by injection cX)
       replace bh := cb HB bh
       replace bi := cb HB bi
       replace bB := eq_true bB
       replace bC := eq_true bC
       refine sta 11 (fun w' => w'.cell? ⟨aI, 0, none⟩ = some (ak) ∧ w'.cell? ⟨aI, 1, none⟩ = some (.slice ba ap.length bc) ∧ w'.cell? ⟨ab, 0, none⟩ = some (.slice (some ac) M.length ai) ∧ w'.cell? ⟨ab, 1, none⟩ = some (.slice aH y.length aj) ∧ w'.cell? (ac.add ((L).toNat * 2)) = some (.int .i64 ((rd_T36 M L).f0)) ∧ w'.cell? ⟨(ac.add ((L).toNat * 2)).block, (ac.add ((L).toNat * 2)).off + 1, none⟩ = some (.int .i64 ((rd_T36 M L).f1))) [10] ⟨cx I 0, cx I 1, cx z 0, cx z 1, (cb HB bU), (cb HB bT)⟩ (fun hHeld => ?_); refine with_tabW spec_l2Off.tab6 spec_l2Off.bits6 (fun HT_ HW_ => ?_)
       generalize cV.drew = dO at T X z J O I HB bh bi hHeld ⊢
       refine pu 0 25 ?_
       refine pu 2 27 ?_
       refine pu 4 29 ?_
       refine tk 1 26 ?_
       refine tk 3 28 ?_
       refine pu 5 30 ?_
       refine tk 6 31 ?_
       refine on 7 32 (fun K hK => ?_)
       refine va ?_
       refine hK.out _ _ ⟨cx I 0, cx I 1, cx z 0, cx z 1, ca (cb HB bU), ca (cb HB bT)⟩ (fun hHeld => ?_)
       clear hK K
       refine nrm 32 ?_
       refine on 8 33 (fun K hK => ?_)
       refine Kd.R_append_step k36 (w0 := w) w.heap.size (by rfl) (.tmp 26) (.tmp 32) 29 36 (.agg #[(.int .i64 0), (.int .i64 0)]) 16 rfl Try.underlying29 info36 rfl (by decide) (by omega) ak al (⟨(rd_T36 M L).f0, (rd_T36 M L).f1⟩ : S36) [.int .i64 ((rd_T36 M L).f0), .int .i64 ((rd_T36 M L).f1)] (fun k_ => k_ ≠ aa) (fun _ => False) rfl rfl ?aP (fun _ hk => hk.elim) ?aF ?aO ?aB ?aS ?aL ?_
       (case aP => exact k36_mkM _ _ _ (⟨(rd_T36 M L).f0, (rd_T36 M L).f1⟩ : S36))
       (case aB => exact (bs HB.out))
       (case aF => exact (fun k_ hk => Kd.freshB (g := aa) (o := .cells #[.int .i64 Y, .int .i64 Z] 36 (0, 0)) (bf J.out) k_ hk))
       (case aO => exact (rl T.out))
       (case aS => exact (below_size (bs HB.out)))
       (case aL => have := cQ.out; omega)
       intro dP cY ho hb hg hat
       rw [← cR.out] at ho
       replace X := am (Kd.R_over' (rl X.out) (Kd.R_typed (rl T.out)) (by decide) hg)
       replace z := gr z T hg
       replace J := am (blk_grown (g := aa) (o := .cells #[.int .i64 Y, .int .i64 Z] 36 (0, 0)) (bf J.out) hg (Kd.R_away T.out (fun _ hk => hk)))
       replace O := gr O T hg
       replace I := gr I T hg
       replace HB := am hb
       have cC := am ho
       clear T
       clear ho hb hg hat
       obtain ⟨cZ, c0, cD⟩ := Kd.R_slice cC.out
       (first | subst cD | (injection cD with bj bV bk; have bW := bj.symm; have bX := bk.symm; clear bj bV bk; subst bW; subst bX))
       refine hK.out _ _ ⟨cx I 0, cx I 1, cx z 0, cx z 1, (cb HB bU), (cb HB bT)⟩ (fun hHeld => ?_)
       clear hK K
       refine nrm 33 ?_
       refine pu 9 34 ?_
       refine la0 10 (fun K hK => ?_)
       have dQ : cY.cell? ⟨aI, 0, none⟩ = some (ak) := cx I 0
       have dR := blk_frozen I.out 0
       have dS := aq.out
       have dT := bv.out
       have dU := bz.out
       have dV := ar.out
       have dW := bw.out
       have dX := bA.out
       refine sk ?_
       refine hK.out _ _ ?_
       clear hK K
       refine dn ?_
       try go_wp2
       go_roundg k1
       case measure => have := au.out; omega
       case rel => exact ⟨(wrap64 (L + 1)), (bO), (.slice cZ bO.length c0), eqs, H', ⟨by have := au.out; omega⟩, ⟨Kd.R_mono (rt cC.out I.out (by decide)) (fun _ hk => hk)⟩, ⟨Kd.R_mono (rt X.out I.out (by decide)) (fun _ hk => trivial)⟩, ⟨bf z.out⟩, ⟨bf J.out⟩, ⟨bf O.out⟩, ⟨by (with_reducible repeat (first | refine blk_drewN ?_ _ | refine blk_drew ?_ | refine blk_alloc ?_ _)); refine blk_put (cs := #[ak, .slice ba ap.length bc]) ?_ 0 _ rfl; exact bf I.out⟩, ⟨bs HB.out⟩⟩
      ·rw [if_neg bg] at H
       exact absurd H (by simp)
     ·rw [if_neg aU] at H
      have cB : (!(((rd_T36 M L).f0) == Y) || (!(((rd_T36 M L).f1) == Z))) = false := by simpa using aU
      clear aU
      have H' := am H
      clear H
      have dY := aM.out
      have dZ := aN.out
      have d0 := aQ.out
      have d1 := aR.out
      have d2 := aq.out
      have d3 := ar.out
      obtain ⟨c4, c5⟩ := bc2 (w := wr) z.out
      have c6 := blk_frozen z.out
      try go_wp2
      replace T := rd_ T
      replace X := rd_ X
      replace z := bd z
      replace J := bd J
      replace O := bd O
      replace I := bd I
      replace HB := hd HB
      have aJ : 0 ≤ (L : Int) := oda
      have aK : L < (M.length : Int) := oda
      obtain ⟨ac, bQ, av, aw⟩ := at_T36 bK.out L aJ aK
      have bR := aw
      have bS := av
      cases bQ
      replace av := cb HB av
      replace aw := cb HB aw
      replace aJ := eq_true aJ
      replace aK := eq_true aK
      refine sta 7 (fun w' => w'.cell? ⟨ab, 0, none⟩ = some (.slice (some ac) M.length ai) ∧ w'.cell? ⟨ab, 1, none⟩ = some (.slice aH y.length aj) ∧ w'.cell? ⟨aa, 0, none⟩ = some (.int .i64 Y) ∧ w'.cell? ⟨aa, 1, none⟩ = some (.int .i64 Z) ∧ w'.cell? (ac.add ((L).toNat * 2)) = some (.int .i64 ((rd_T36 M L).f0)) ∧ w'.cell? ⟨(ac.add ((L).toNat * 2)).block, (ac.add ((L).toNat * 2)).off + 1, none⟩ = some (.int .i64 ((rd_T36 M L).f1))) [] ⟨cx z 0, cx z 1, cx J 0, cx J 1, (cb HB bS), (cb HB bR)⟩ (fun hHeld => ?_)
      generalize wr.drew = d4 at T X z J O I HB av aw hHeld ⊢
      refine pu 0 18 ?_
      refine pu 2 20 ?_
      refine tk 1 19 ?_
      refine pu 3 21 ?_
      refine tk 4 22 ?_
      refine tk 5 23 ?_
      refine pu 6 24 ?_
      refine dn ?_
      try go_wp2
      go_roundg k1
      case measure => have := au.out; omega
      case rel => exact ⟨(wrap64 (L + 1)), (al), (ak), eqs, H', ⟨by have := au.out; omega⟩, ⟨rl T.out⟩, ⟨rl X.out⟩, ⟨bf z.out⟩, ⟨bf J.out⟩, ⟨bf O.out⟩, ⟨bf I.out⟩, ⟨bs HB.out⟩⟩
    ·rw [if_neg be] at H
     exact absurd H (by simp)
   ·rw [if_neg aT] at H
    have cA : decide (L < (M.length : Int)) = false := decide_eq_false aT
    clear aT
    have H' := am H
    clear H
    have d5 := aM.out
    have d6 := aN.out
    have d7 := aQ.out
    have d8 := aR.out
    have d9 := aq.out
    have ea := ar.out
    obtain ⟨c7, c8⟩ := bc2 (w := wr) z.out
    have c9 := blk_frozen z.out
    go_wp2
    go_loopg [7] k1 (fun kq v7 w' => ∃ (s : Int) (ay : List (S56)) (az : Value), v7 = .int .i64 s ∧ Aside0 (spec_l2Off.l1 kq s M y Y Z al ay = some (r1, r2)) ∧ Aside0 (kq ≤ k1) ∧ Aside0 (Kd.R k36 36 w' w.heap.size (fun k_ => k_ ≠ aa) ak al) ∧ Aside0 (Kd.R k56 56 w' w.heap.size (fun _ => True) az ay) ∧ Aside0 (w'.heap[ab]? = some (.cells #[(.slice ax M.length ai), (.slice aH y.length aj)] 34 (0, 0))) ∧ Aside0 (w'.heap[aa]? = some (.cells #[.int .i64 Y, .int .i64 Z] 36 (0, 0))) ∧ Aside0 (w'.heap[bN]? = some (.cells #[(.slice none 0 0), (.slice none 0 0)] 34 (0, 0))) ∧ Aside0 (w'.heap[aI]? = some (.cells #[ak, az] 34 (0, 0))) ∧ Aside0 (Below w.heap.size w w'))
    case atStart => exact ⟨(0), (ap), (.slice ba ap.length bc), eqs, H', ⟨Nat.le_refl _⟩, ⟨rl T.out⟩, ⟨rl X.out⟩, ⟨bf z.out⟩, ⟨bf J.out⟩, ⟨bf O.out⟩, ⟨bf I.out⟩, ⟨bs HB.out⟩⟩
    case round =>
     clear H'
     try clear c1
     try clear c2
     try clear p2
     try clear c3
     try clear p3
     try clear q3
     try clear eb
     try clear p6
     try clear cL
     try clear cM
     try clear cN
     try clear cO
     try clear aT
     try clear cA
     try clear be
     try clear cP
     try clear aU
     try clear cB
     try clear bg
     try clear ec
     try clear ed
     try clear ee
     try clear ef
     try clear eg
     try clear eh
     try clear ei
     try clear ej
     try clear ek
     try clear el
     try clear em
     try clear en
     try clear cv cy
     try clear cS cT
     try clear c4 c5
     try clear c7 c8
     try clear cz
     try clear cU
     try clear c6
     try clear c9
     try clear av
     try clear aw
     try clear bh
     try clear bi
     try clear p2
     try clear aJ
     try clear bB
     try clear aK
     try clear bC
     obtain ⟨s, ay, az, rfl, HA, aZ, T, X, z, J, O, I, HB⟩ := hrel
     cases gk with
     | zero => exact absurd HA.out (by simp [spec_l2Off.l1])
     | succ k2 =>
      have H := HA.out
      clear HA
      simp only [spec_l2Off.l1] at H
      by_cases a4 : s < (y.length : Int)
      ·rw [if_pos a4] at H
       have da : decide (s < (y.length : Int)) = true := decide_eq_true a4
       clear a4
       by_cases bD : 0 ≤ s
       ·rw [if_pos bD] at H
        have eo : decide (0 ≤ s) = true := decide_eq_true bD
        clear bD
        by_cases a5 : (!(((rd_T56 y s).f1.f0) == Y) || (!(((rd_T56 y s).f1.f1) == Z))) = true
        ·rw [if_pos a5] at H
         have db : (!(((rd_T56 y s).f1.f0) == Y) || (!(((rd_T56 y s).f1.f1) == Z))) = true := a5
         clear a5
         by_cases a6 : (!(((rd_T56 y s).f2.f0) == Y) || (!(((rd_T56 y s).f2.f1) == Z))) = true
         ·rw [if_pos a6] at H
          have dc : (!(((rd_T56 y s).f2.f0) == Y) || (!(((rd_T56 y s).f2.f1) == Z))) = true := a6
          clear a6
          by_cases bE : ay.length < 3518437208883
          ·rw [if_pos bE] at H
           have dd := am bE
           clear bE
           obtain ⟨bY, bZ⟩ : ∃ y_ : List (S56), y_ = (ay ++ [(⟨(rd_T56 y s).f0, (⟨(rd_T56 y s).f1.f0, (rd_T56 y s).f1.f1⟩ : S36), (⟨(rd_T56 y s).f2.f0, (rd_T56 y s).f2.f1⟩ : S36)⟩ : S56)]) := ⟨_, rfl⟩
           replace H : (spec_l2Off.l1 k2 (wrap64 (s + 1)) M y Y Z al bY) = some (r1, r2) := by first | (rw [bZ]; exact H) | exact H
           have de := am bZ
           clear bZ
           have H' := am H
           clear H
           have ep := aM.out
           have eq := aN.out
           have er := aQ.out
           have es := aR.out
           have et := aq.out
           have eu := ar.out
           obtain ⟨ev, ew⟩ := bc2 (w := wr) z.out
           have ex := blk_frozen z.out
           try go_wp2
           replace T := rd_ T
           replace X := rd_ X
           replace z := bd z
           replace J := bd J
           replace O := bd O
           replace I := bd I
           replace HB := hd HB
           have an : 0 ≤ (s : Int) := oda
           have ao : s < (y.length : Int) := oda
           obtain ⟨G, bl, ad, ae, af, ag, ah⟩ := at_T56 aX.out s an ao
           have bm := ah
           have bn := ag
           have bo := af
           have br := ae
           have bt := ad
           cases bl
           replace ad := cb HB ad
           replace ae := cb HB ae
           replace af := cb HB af
           replace ag := cb HB ag
           replace ah := cb HB ah
           replace an := eq_true an
           replace ao := eq_true ao
           have aV : 0 ≤ (s : Int) := oda
           have aW : s < (y.length : Int) := oda
           obtain ⟨b0, b1, aA, aC, aD, aE, aG⟩ := at_T56 aX.out s aV aW
           have b2 := aG
           have b3 := aE
           have b4 := aD
           have b5 := aC
           have b6 := aA
           obtain rfl : G = b0 := (by injection b1)
           replace aA := cb HB aA
           replace aC := cb HB aC
           replace aD := cb HB aD
           replace aE := cb HB aE
           replace aG := cb HB aG
           replace aV := eq_true aV
           replace aW := eq_true aW
           refine sta 18 (fun w' => w'.cell? ⟨ab, 0, none⟩ = some (.slice ax M.length ai) ∧ w'.cell? ⟨ab, 1, none⟩ = some (.slice (some G) y.length aj) ∧ w'.cell? ⟨aa, 0, none⟩ = some (.int .i64 Y) ∧ w'.cell? ⟨aa, 1, none⟩ = some (.int .i64 Z) ∧ w'.cell? (G.add ((s).toNat * 5)) = some (.int .i64 ((rd_T56 y s).f0)) ∧ w'.cell? ⟨(G.add ((s).toNat * 5)).block, (G.add ((s).toNat * 5)).off + 1, none⟩ = some (.int .i64 ((rd_T56 y s).f1.f0)) ∧ w'.cell? ⟨(G.add ((s).toNat * 5)).block, (G.add ((s).toNat * 5)).off + 2, none⟩ = some (.int .i64 ((rd_T56 y s).f1.f1)) ∧ w'.cell? ⟨(G.add ((s).toNat * 5)).block, (G.add ((s).toNat * 5)).off + 3, none⟩ = some (.int .i64 ((rd_T56 y s).f2.f0)) ∧ w'.cell? ⟨(G.add ((s).toNat * 5)).block, (G.add ((s).toNat * 5)).off + 4, none⟩ = some (.int .i64 ((rd_T56 y s).f2.f1)) ∧ w'.cell? (G.add ((s).toNat * 5)) = some (.int .i64 ((rd_T56 y s).f0)) ∧ w'.cell? ⟨(G.add ((s).toNat * 5)).block, (G.add ((s).toNat * 5)).off + 1, none⟩ = some (.int .i64 ((rd_T56 y s).f1.f0)) ∧ w'.cell? ⟨(G.add ((s).toNat * 5)).block, (G.add ((s).toNat * 5)).off + 2, none⟩ = some (.int .i64 ((rd_T56 y s).f1.f1)) ∧ w'.cell? ⟨(G.add ((s).toNat * 5)).block, (G.add ((s).toNat * 5)).off + 3, none⟩ = some (.int .i64 ((rd_T56 y s).f2.f0)) ∧ w'.cell? ⟨(G.add ((s).toNat * 5)).block, (G.add ((s).toNat * 5)).off + 4, none⟩ = some (.int .i64 ((rd_T56 y s).f2.f1))) [] ⟨cx z 0, cx z 1, cx J 0, cx J 1, (cb HB bt), (cb HB br), (cb HB bo), (cb HB bn), (cb HB bm), (cb HB b6), (cb HB b5), (cb HB b4), (cb HB b3), (cb HB b2)⟩ (fun hHeld => ?_); refine with_tabW spec_l2Off.tab10 spec_l2Off.bits10 (fun HT_ HW_ => ?_)
           generalize wr.drew = df at T X z J O I HB ad ae af ag ah aA aC aD aE aG hHeld ⊢
           refine pu 0 42 ?_
           refine pu 2 44 ?_
           refine tk 1 43 ?_
           refine pu 3 45 ?_
           refine pu 4 46 ?_
           refine tk 5 47 ?_
           refine tk 6 48 ?_
           refine pu 7 49 ?_
           refine pu 8 50 ?_
           refine pu 9 51 ?_
           refine pu 11 53 ?_
           refine tk 10 52 ?_
           refine pu 12 54 ?_
           refine pu 13 55 ?_
           refine tk 14 56 ?_
           refine tk 15 57 ?_
           refine pu 16 58 ?_
           refine pu 17 59 ?_
           refine dn ?_
           try go_wp2
           replace T := rd_ T
           replace X := rd_ X
           replace z := bd z
           replace J := bd J
           replace O := bd O
           replace I := bd I
           replace HB := hd HB
           have b7 : 0 ≤ (s : Int) := oda
           have b8 : s < (y.length : Int) := oda
           obtain ⟨dg, dh, bF, bG, bH, bI, bJ⟩ := at_T56 aX.out s b7 b8
           have b9 := bJ
           have ce := bI
           have cf := bH
           have cg := bG
           have ch := bF
           obtain rfl : G = dg := (by injection dh)
           replace bF := cb HB bF
           replace bG := cb HB bG
           replace bH := cb HB bH
           replace bI := cb HB bI
           replace bJ := cb HB bJ
           replace b7 := eq_true b7
           replace b8 := eq_true b8
           refine sta 11 (fun w' => w'.cell? ⟨aI, 0, none⟩ = some (ak) ∧ w'.cell? ⟨aI, 1, none⟩ = some (az) ∧ w'.cell? ⟨ab, 0, none⟩ = some (.slice ax M.length ai) ∧ w'.cell? ⟨ab, 1, none⟩ = some (.slice (some G) y.length aj) ∧ w'.cell? (G.add ((s).toNat * 5)) = some (.int .i64 ((rd_T56 y s).f0)) ∧ w'.cell? ⟨(G.add ((s).toNat * 5)).block, (G.add ((s).toNat * 5)).off + 1, none⟩ = some (.int .i64 ((rd_T56 y s).f1.f0)) ∧ w'.cell? ⟨(G.add ((s).toNat * 5)).block, (G.add ((s).toNat * 5)).off + 2, none⟩ = some (.int .i64 ((rd_T56 y s).f1.f1)) ∧ w'.cell? ⟨(G.add ((s).toNat * 5)).block, (G.add ((s).toNat * 5)).off + 3, none⟩ = some (.int .i64 ((rd_T56 y s).f2.f0)) ∧ w'.cell? ⟨(G.add ((s).toNat * 5)).block, (G.add ((s).toNat * 5)).off + 4, none⟩ = some (.int .i64 ((rd_T56 y s).f2.f1))) [10] ⟨cx I 0, cx I 1, cx z 0, cx z 1, (cb HB ch), (cb HB cg), (cb HB cf), (cb HB ce), (cb HB b9)⟩ (fun hHeld => ?_); refine with_tabW spec_l2Off.tab11 spec_l2Off.bits11 (fun HT_ HW_ => ?_)
           generalize df.drew = ey at T X z J O I HB bF bG bH bI bJ hHeld ⊢
           refine pu 0 60 ?_
           refine pu 2 62 ?_
           refine pu 4 64 ?_
           refine tk 1 61 ?_
           refine tk 3 63 ?_
           refine pu 5 65 ?_
           refine tk 6 66 ?_
           refine on 7 67 (fun K hK => ?_)
           refine va ?_
           refine hK.out _ _ ⟨cx I 0, cx I 1, cx z 0, cx z 1, ca (cb HB ch), ca (cb HB cg), ca (cb HB cf), ca (cb HB ce), ca (cb HB b9)⟩ (fun hHeld => ?_)
           clear hK K
           refine nrm 67 ?_
           refine on 8 68 (fun K hK => ?_)
           refine Kd.R_append_step k56 (w0 := w) w.heap.size (by rfl) (.tmp 61) (.tmp 67) 32 56 (.agg #[(.int .i64 0), (.int .i64 0), (.int .i64 0), (.int .i64 0), (.int .i64 0)]) 40 rfl Try.underlying32 info56 rfl (by decide) (by omega) az ay (⟨(rd_T56 y s).f0, (⟨(rd_T56 y s).f1.f0, (rd_T56 y s).f1.f1⟩ : S36), (⟨(rd_T56 y s).f2.f0, (rd_T56 y s).f2.f1⟩ : S36)⟩ : S56) [.int .i64 ((rd_T56 y s).f0), .int .i64 ((rd_T56 y s).f1.f0), .int .i64 ((rd_T56 y s).f1.f1), .int .i64 ((rd_T56 y s).f2.f0), .int .i64 ((rd_T56 y s).f2.f1)] (fun _ => True) (fun _ => False) rfl rfl ?aP (fun _ hk => hk.elim) ?aF ?aO ?aB ?aS ?aL ?_
           (case aP => exact k56_mkM _ _ _ (⟨(rd_T56 y s).f0, (⟨(rd_T56 y s).f1.f0, (rd_T56 y s).f1.f1⟩ : S36), (⟨(rd_T56 y s).f2.f0, (rd_T56 y s).f2.f1⟩ : S36)⟩ : S56))
           (case aB => exact (bs HB.out))
           (case aF => exact (fun _ _ => trivial))
           (case aO => exact (rl X.out))
           (case aS => exact (below_size (bs HB.out)))
           (case aL => have := dd.out; omega)
           intro ez di ho hb hg hat
           rw [← de.out] at ho
           replace T := am (Kd.R_over' (rl T.out) (Kd.R_typed (rl X.out)) (by decide) hg)
           replace z := gr z X hg
           replace J := gr J X hg
           replace O := gr O X hg
           replace I := gr I X hg
           replace HB := am hb
           have cE := am ho
           clear X
           clear ho hb hg hat
           obtain ⟨dj, dk, cF⟩ := Kd.R_slice cE.out
           (first | subst cF | (injection cF with bj bV bk; have bW := bj.symm; have bX := bk.symm; clear bj bV bk; subst bW; subst bX))
           refine hK.out _ _ ⟨cx I 0, cx I 1, cx z 0, cx z 1, (cb HB ch), (cb HB cg), (cb HB cf), (cb HB ce), (cb HB b9)⟩ (fun hHeld => ?_)
           clear hK K
           refine nrm 68 ?_
           refine pu 9 69 ?_
           refine la0 10 (fun K hK => ?_)
           have eA : di.cell? ⟨aI, 1, none⟩ = some (az) := cx I 1
           have eB := blk_frozen I.out 1
           have eC := aq.out
           have eD := bv.out
           have eE := bz.out
           have eF := ar.out
           have eG := bw.out
           have eH := bA.out
           refine sk ?_
           refine hK.out _ _ ?_
           clear hK K
           refine dn ?_
           try go_wp2
           go_roundg k2
           case measure => have := au.out; have := aZ.out; omega
           case rel => exact ⟨(wrap64 (s + 1)), (bY), (.slice dj bY.length dk), eqs, H', ⟨by have := au.out; have := aZ.out; omega⟩, ⟨Kd.R_mono (rt T.out I.out (by decide)) (fun _ hk => hk)⟩, ⟨Kd.R_mono (rt cE.out I.out (by decide)) (fun _ hk => trivial)⟩, ⟨bf z.out⟩, ⟨bf J.out⟩, ⟨bf O.out⟩, ⟨by (with_reducible repeat (first | refine blk_drewN ?_ _ | refine blk_drew ?_ | refine blk_alloc ?_ _)); refine blk_put (cs := #[ak, az]) ?_ 1 _ rfl; exact bf I.out⟩, ⟨bs HB.out⟩⟩
          ·rw [if_neg bE] at H
           exact absurd H (by simp)
         ·rw [if_neg a6] at H
          have dc : (!(((rd_T56 y s).f2.f0) == Y) || (!(((rd_T56 y s).f2.f1) == Z))) = false := by simpa using a6
          clear a6
          have H' := am H
          clear H
          have eI := aM.out
          have eJ := aN.out
          have eK := aQ.out
          have eL := aR.out
          have eM := aq.out
          have eN := ar.out
          obtain ⟨eO, eP⟩ := bc2 (w := wr) z.out
          have eQ := blk_frozen z.out
          try go_wp2
          replace T := rd_ T
          replace X := rd_ X
          replace z := bd z
          replace J := bd J
          replace O := bd O
          replace I := bd I
          replace HB := hd HB
          have an : 0 ≤ (s : Int) := oda
          have ao : s < (y.length : Int) := oda
          obtain ⟨G, bl, ad, ae, af, ag, ah⟩ := at_T56 aX.out s an ao
          have bm := ah
          have bn := ag
          have bo := af
          have br := ae
          have bt := ad
          cases bl
          replace ad := cb HB ad
          replace ae := cb HB ae
          replace af := cb HB af
          replace ag := cb HB ag
          replace ah := cb HB ah
          replace an := eq_true an
          replace ao := eq_true ao
          have aV : 0 ≤ (s : Int) := oda
          have aW : s < (y.length : Int) := oda
          obtain ⟨b0, b1, aA, aC, aD, aE, aG⟩ := at_T56 aX.out s aV aW
          have b2 := aG
          have b3 := aE
          have b4 := aD
          have b5 := aC
          have b6 := aA
          obtain rfl : G = b0 := (by injection b1)
          replace aA := cb HB aA
          replace aC := cb HB aC
          replace aD := cb HB aD
          replace aE := cb HB aE
          replace aG := cb HB aG
          replace aV := eq_true aV
          replace aW := eq_true aW
          refine sta 18 (fun w' => w'.cell? ⟨ab, 0, none⟩ = some (.slice ax M.length ai) ∧ w'.cell? ⟨ab, 1, none⟩ = some (.slice (some G) y.length aj) ∧ w'.cell? ⟨aa, 0, none⟩ = some (.int .i64 Y) ∧ w'.cell? ⟨aa, 1, none⟩ = some (.int .i64 Z) ∧ w'.cell? (G.add ((s).toNat * 5)) = some (.int .i64 ((rd_T56 y s).f0)) ∧ w'.cell? ⟨(G.add ((s).toNat * 5)).block, (G.add ((s).toNat * 5)).off + 1, none⟩ = some (.int .i64 ((rd_T56 y s).f1.f0)) ∧ w'.cell? ⟨(G.add ((s).toNat * 5)).block, (G.add ((s).toNat * 5)).off + 2, none⟩ = some (.int .i64 ((rd_T56 y s).f1.f1)) ∧ w'.cell? ⟨(G.add ((s).toNat * 5)).block, (G.add ((s).toNat * 5)).off + 3, none⟩ = some (.int .i64 ((rd_T56 y s).f2.f0)) ∧ w'.cell? ⟨(G.add ((s).toNat * 5)).block, (G.add ((s).toNat * 5)).off + 4, none⟩ = some (.int .i64 ((rd_T56 y s).f2.f1)) ∧ w'.cell? (G.add ((s).toNat * 5)) = some (.int .i64 ((rd_T56 y s).f0)) ∧ w'.cell? ⟨(G.add ((s).toNat * 5)).block, (G.add ((s).toNat * 5)).off + 1, none⟩ = some (.int .i64 ((rd_T56 y s).f1.f0)) ∧ w'.cell? ⟨(G.add ((s).toNat * 5)).block, (G.add ((s).toNat * 5)).off + 2, none⟩ = some (.int .i64 ((rd_T56 y s).f1.f1)) ∧ w'.cell? ⟨(G.add ((s).toNat * 5)).block, (G.add ((s).toNat * 5)).off + 3, none⟩ = some (.int .i64 ((rd_T56 y s).f2.f0)) ∧ w'.cell? ⟨(G.add ((s).toNat * 5)).block, (G.add ((s).toNat * 5)).off + 4, none⟩ = some (.int .i64 ((rd_T56 y s).f2.f1))) [] ⟨cx z 0, cx z 1, cx J 0, cx J 1, (cb HB bt), (cb HB br), (cb HB bo), (cb HB bn), (cb HB bm), (cb HB b6), (cb HB b5), (cb HB b4), (cb HB b3), (cb HB b2)⟩ (fun hHeld => ?_); refine with_tabW spec_l2Off.tab10 spec_l2Off.bits10 (fun HT_ HW_ => ?_)
          generalize wr.drew = eR at T X z J O I HB ad ae af ag ah aA aC aD aE aG hHeld ⊢
          refine pu 0 42 ?_
          refine pu 2 44 ?_
          refine tk 1 43 ?_
          refine pu 3 45 ?_
          refine pu 4 46 ?_
          refine tk 5 47 ?_
          refine tk 6 48 ?_
          refine pu 7 49 ?_
          refine pu 8 50 ?_
          refine pu 9 51 ?_
          refine pu 11 53 ?_
          refine tk 10 52 ?_
          refine pu 12 54 ?_
          refine pu 13 55 ?_
          refine tk 14 56 ?_
          refine tk 15 57 ?_
          refine pu 16 58 ?_
          refine pu 17 59 ?_
          refine dn ?_
          try go_wp2
          go_roundg k2
          case measure => have := au.out; have := aZ.out; omega
          case rel => exact ⟨(wrap64 (s + 1)), (ay), (az), eqs, H', ⟨by have := au.out; have := aZ.out; omega⟩, ⟨rl T.out⟩, ⟨rl X.out⟩, ⟨bf z.out⟩, ⟨bf J.out⟩, ⟨bf O.out⟩, ⟨bf I.out⟩, ⟨bs HB.out⟩⟩
        ·rw [if_neg a5] at H
         have db : (!(((rd_T56 y s).f1.f0) == Y) || (!(((rd_T56 y s).f1.f1) == Z))) = false := by simpa using a5
         clear a5
         have H' := am H
         clear H
         have eS := aM.out
         have eT := aN.out
         have eU := aQ.out
         have eV := aR.out
         have eW := aq.out
         have eX := ar.out
         obtain ⟨eY, eZ⟩ := bc2 (w := wr) z.out
         have e0 := blk_frozen z.out
         try go_wp2
         replace T := rd_ T
         replace X := rd_ X
         replace z := bd z
         replace J := bd J
         replace O := bd O
         replace I := bd I
         replace HB := hd HB
         have an : 0 ≤ (s : Int) := oda
         have ao : s < (y.length : Int) := oda
         obtain ⟨G, bl, ad, ae, af, ag, ah⟩ := at_T56 aX.out s an ao
         have bm := ah
         have bn := ag
         have bo := af
         have br := ae
         have bt := ad
         cases bl
         replace ad := cb HB ad
         replace ae := cb HB ae
         replace af := cb HB af
         replace ag := cb HB ag
         replace ah := cb HB ah
         replace an := eq_true an
         replace ao := eq_true ao
         refine sta 18 (fun w' => w'.cell? ⟨ab, 0, none⟩ = some (.slice ax M.length ai) ∧ w'.cell? ⟨ab, 1, none⟩ = some (.slice (some G) y.length aj) ∧ w'.cell? ⟨aa, 0, none⟩ = some (.int .i64 Y) ∧ w'.cell? ⟨aa, 1, none⟩ = some (.int .i64 Z) ∧ w'.cell? (G.add ((s).toNat * 5)) = some (.int .i64 ((rd_T56 y s).f0)) ∧ w'.cell? ⟨(G.add ((s).toNat * 5)).block, (G.add ((s).toNat * 5)).off + 1, none⟩ = some (.int .i64 ((rd_T56 y s).f1.f0)) ∧ w'.cell? ⟨(G.add ((s).toNat * 5)).block, (G.add ((s).toNat * 5)).off + 2, none⟩ = some (.int .i64 ((rd_T56 y s).f1.f1)) ∧ w'.cell? ⟨(G.add ((s).toNat * 5)).block, (G.add ((s).toNat * 5)).off + 3, none⟩ = some (.int .i64 ((rd_T56 y s).f2.f0)) ∧ w'.cell? ⟨(G.add ((s).toNat * 5)).block, (G.add ((s).toNat * 5)).off + 4, none⟩ = some (.int .i64 ((rd_T56 y s).f2.f1))) [] ⟨cx z 0, cx z 1, cx J 0, cx J 1, (cb HB bt), (cb HB br), (cb HB bo), (cb HB bn), (cb HB bm)⟩ (fun hHeld => ?_); refine with_tabW spec_l2Off.tab10 spec_l2Off.bits10 (fun HT_ HW_ => ?_)
         generalize wr.drew = e1 at T X z J O I HB ad ae af ag ah hHeld ⊢
         refine pu 0 42 ?_
         refine pu 2 44 ?_
         refine tk 1 43 ?_
         refine pu 3 45 ?_
         refine pu 4 46 ?_
         refine tk 5 47 ?_
         refine tk 6 48 ?_
         refine pu 7 49 ?_
         refine pu 8 50 ?_
         refine ud 9 51 ?_
         refine ud 10 52 ?_
         refine ud 11 53 ?_
         refine ud 12 54 ?_
         refine ud 13 55 ?_
         refine ud 14 56 ?_
         refine ud 15 57 ?_
         refine ud 16 58 ?_
         refine pu 17 59 ?_
         refine dn ?_
         try go_wp2
         go_roundg k2
         case measure => have := au.out; have := aZ.out; omega
         case rel => exact ⟨(wrap64 (s + 1)), (ay), (az), eqs, H', ⟨by have := au.out; have := aZ.out; omega⟩, ⟨rl T.out⟩, ⟨rl X.out⟩, ⟨bf z.out⟩, ⟨bf J.out⟩, ⟨bf O.out⟩, ⟨bf I.out⟩, ⟨bs HB.out⟩⟩
       ·rw [if_neg bD] at H
        exact absurd H (by simp)
      ·rw [if_neg a4] at H
       have da : decide (s < (y.length : Int)) = false := decide_eq_false a4
       clear a4
       simp only [Option.some.injEq, Prod.mk.injEq] at H
       obtain ⟨rfl, rfl⟩ := H
       have e2 := aM.out
       have e3 := aN.out
       have e4 := aQ.out
       have e5 := aR.out
       have e6 := aq.out
       have e7 := ar.out
       obtain ⟨e8, e9⟩ := bc2 (w := wr) z.out
       have fa := blk_frozen z.out
       have fb := bw.out
       have fc := bv.out
       have fd := bA.out
       have fe := bz.out
       obtain ⟨ff, fg⟩ := bc2 (w := wr) I.out
       have fh := blk_frozen I.out
       obtain ⟨dl, dm, dp⟩ := Kd.R_slice T.out
       subst dp
       have fi := cH.out
       have fj := cG.out
       obtain ⟨fk, fl⟩ := bc2 (w := wr) O.out
       have fm := blk_frozen O.out
       obtain ⟨dq, dr, dt⟩ := Kd.R_slice X.out
       subst dt
       go_wp2
       refine bodyPost_ret (results_cell_row rfl _ _ bN 34 #[.slice dl al.length dm, .slice dq ay.length dr] (0, 0) _ rfl (bp O.out rfl) Try.underlying34 rfl (by kernel_rfl)) rfl ?_
       exact ⟨_, _, eqr, Kd.R_mono (rt T.out O.out (by decide)) (fun _ hk => trivial), Kd.R_mono (rt X.out O.out (by decide)) (fun _ hk => trivial), bs HB.out⟩

end Go.Proofs.Ytohmemckdogljaa.QFnExactGraphDo
