/- Contracts of the Go functions that this law reaches: each does what its plain Lean function says. No condition. -/
import Derived.Test.YtkbamcicbofjbaaQFnStoreNarrowx0
import Derived.Test.YtkbamcicbofjbaaQFnStoreNarrowx2
namespace Go.Proofs.Ytkbamcicbofjbaa.QFnStoreNarrow
open Go.RowKit Go.Proofs.YtkbamcicbofjbaaW.PrintWords Go.Proofs.YtkbamcicbofjbaaW.PrintLast Go.Proofs.YtkbamcicbofjbaaW.PrintMore Go.Proofs.Ytkbamcicbofjbaa.Bl
attribute [local go_sem] max2_int min2_int max_two min_two max_three min_three max_four min_four   -- for this text's walks alone
set_option linter.unusedVariables false
set_option linter.unusedSimpArgs false
set_option maxHeartbeats 8000000
set_option maxRecDepth 100000

attribute [local go_sem high] eqA55
/-! ### spec_l2Off: function 39 -/
mutual
def spec_l2Off.l0 : Nat → Int → List (S55) → List (S57) → Int → Int → List (S55) → List (S57) → Option ((List (S55)) × (List (S57)))
 | 0, _, _, _, _, _, _, _ => none
 | k + 1, s, y, I, z, D, G, J => if s < (y.length : Int) then (if 0 ≤ s then (if (!(((rd_T55 y s).f0) == z) || (!(((rd_T55 y s).f1) == D))) = true then (if G.length < 8796093022208 then (spec_l2Off.l0 k (wrap64 (s + 1)) y I z D (G ++ [(⟨(rd_T55 y s).f0, (rd_T55 y s).f1⟩ : S55)]) J) else (none)) else (spec_l2Off.l0 k (wrap64 (s + 1)) y I z D G J)) else (none)) else (spec_l2Off.l1 k 0 y I z D G J)
def spec_l2Off.l1 : Nat → Int → List (S55) → List (S57) → Int → Int → List (S55) → List (S57) → Option ((List (S55)) × (List (S57)))
 | 0, _, _, _, _, _, _, _ => none
 | k + 1, s, J, y, z, D, I, G => if s < (y.length : Int) then (if 0 ≤ s then (if (!(((rd_T57 y s).f1.f0) == z) || (!(((rd_T57 y s).f1.f1) == D))) = true then (if (!(((rd_T57 y s).f2.f0) == z) || (!(((rd_T57 y s).f2.f1) == D))) = true then (if G.length < 3518437208883 then (spec_l2Off.l1 k (wrap64 (s + 1)) J y z D I (G ++ [(⟨(rd_T57 y s).f0, (⟨(rd_T57 y s).f1.f0, (rd_T57 y s).f1.f1⟩ : S55), (⟨(rd_T57 y s).f2.f0, (rd_T57 y s).f2.f1⟩ : S55)⟩ : S57)])) else (none)) else (spec_l2Off.l1 k (wrap64 (s + 1)) J y z D I G)) else (spec_l2Off.l1 k (wrap64 (s + 1)) J y z D I G)) else (none)) else (some (I, G))
end
def spec_l2Off.f (k : Nat) (s : List (S55)) (y : List (S57)) (z : Int) (D : Int) : Option ((List (S55)) × (List (S57))) := spec_l2Off.l0 k 0 s y z D (([] : List (S55))) (([] : List (S57)))
def spec_l2Off.T6 : Bool × List (List Nat × List Nat) := (true, [([], []), ([0], [0]), ([], []), ([2], [2]), ([], []), ([3, 4], [3, 4]), ([5], [5]), ([6], [6]), ([1, 7], [1, 7]), ([0, 1, 2, 3, 4, 5, 6, 7, 8], []), ([9, 8, 8, 0, 1, 2, 3, 4, 5, 6, 7, 8], [8, 9])])
def spec_l2Off.B6 : List Nat := [0, 1, 0, 4, 0, 28, 60, 124, 255, 511, 1023]
theorem spec_l2Off.tab6 : rtab .any (opsOf Try.f39 6) = spec_l2Off.T6 := by kernel_rfl
theorem spec_l2Off.bits6 : waitsOk spec_l2Off.T6.2 spec_l2Off.B6 = true := by kernel_rfl
def spec_l2Off.T10 : Bool × List (List Nat × List Nat) := (true, [([], []), ([0], [0]), ([], []), ([1, 2], [1, 2]), ([3], [3]), ([4], [4]), ([], []), ([5, 6], [5, 6]), ([7], [7]), ([8], [8]), ([9, 8], [8, 9]), ([8], [8]), ([10, 11, 8], [8, 10, 11]), ([12, 8], [8, 12]), ([13, 8], [8, 13]), ([8], [8]), ([14, 15, 8], [8, 14, 15]), ([8, 16], [8, 16])])
def spec_l2Off.B10 : List Nat := [0, 1, 0, 7, 15, 31, 0, 127, 255, 511, 1023, 511, 4095, 8191, 16383, 511, 65535, 131071]
theorem spec_l2Off.tab10 : rtab .any (opsOf Try.f39 10) = spec_l2Off.T10 := by kernel_rfl
theorem spec_l2Off.bits10 : waitsOk spec_l2Off.T10.2 spec_l2Off.B10 = true := by kernel_rfl
def spec_l2Off.T11 : Bool × List (List Nat × List Nat) := (true, [([], []), ([0], [0]), ([], []), ([2], [2]), ([], []), ([3, 4], [3, 4]), ([5], [5]), ([6], [6]), ([1, 7], [1, 7]), ([0, 1, 2, 3, 4, 5, 6, 7, 8], []), ([9, 8, 8, 0, 1, 2, 3, 4, 5, 6, 7, 8], [8, 9])])
def spec_l2Off.B11 : List Nat := [0, 1, 0, 4, 0, 28, 60, 124, 255, 511, 1023]
theorem spec_l2Off.tab11 : rtab .any (opsOf Try.f39 11) = spec_l2Off.T11 := by kernel_rfl
theorem spec_l2Off.bits11 : waitsOk spec_l2Off.T11.2 spec_l2Off.B11 = true := by kernel_rfl
theorem spec_l2Off.calls (k : Nat) (ax : Option Addr) (ai : Nat) (M : List (S55)) (aH : Option Addr) (aj : Nat) (y : List (S57)) (Y : Int) (Z : Int) (r1 : List (S55)) (r2 : List (S57)) (w : World) (ci : Kd.C k55 w ax M.length M) (cj : M.length ≤ ai) (ck : Kd.C k57 w aH y.length y) (cl : y.length ≤ aj) (h : spec_l2Off.f k M y Y Z = some (r1, r2)) :
  Calls Try.prog 39 #[.agg #[.slice ax M.length ai, .slice aH y.length aj], .agg #[.int .i64 Y, .int .i64 Z]] w fun e w' => ∃ cm cn : Value, e = .returned (.agg #[cm, cn]) ∧ Kd.R k55 55 w' w.heap.size (fun _ => True) cm r1 ∧ Kd.R k57 57 w' w.heap.size (fun _ => True) cn r2 ∧ Below w.heap.size w w' := by
 have hu38 := Try.underlying38
 have hu55 := Try.underlying55
 have hu57 := Try.underlying57
 have bK := am ci
 have dt := am cj
 clear ci cj
 have aX := am ck
 have du := am cl
 clear ck cl
 have HB := am (Below.refl w.heap.size w)
 have H := h; unfold spec_l2Off.f at H
 clear h
 obtain ⟨a7, bL⟩ : ∃ y_ : List (S55), y_ = (([] : List (S55))) := ⟨_, rfl⟩
 replace H : (spec_l2Off.l0 k 0 M y Y Z a7 (([] : List (S57)))) = some (r1, r2) := by first | (rw [bL]; exact H) | exact H
 have co := am bL
 clear bL
 obtain ⟨ap, bM⟩ : ∃ y_ : List (S57), y_ = (([] : List (S57))) := ⟨_, rfl⟩
 replace H : (spec_l2Off.l0 k 0 M y Y Z a7 ap) = some (r1, r2) := by first | (rw [bM]; exact H) | exact H
 have cp := am bM
 clear bM
 have H' := am H
 clear H
 go_enter Try.func39, Try.ntmps39
 go_wp2_with (first | ((with_reducible refine gd 2 rfl ?_); refine bx 2 (cs := #[.slice ax M.length ai, .slice aH y.length aj]) (t := 38) ?_; intro ab hg w3 hbox hb; have z := am hbox; have dv := gwb HB hg; replace HB := hs HB hb; clear hb hbox hg) | ((with_reducible refine gd 3 rfl ?_); refine bx 3 (cs := #[.int .i64 Y, .int .i64 Z]) (t := 55) ?_; intro aa hg w4 hbox hb; have J := am hbox; have dw := gwb HB hg; replace HB := hs HB hb; have aM := nq z hg; have aN := nq' z hg; replace z := bb z hb rfl; clear hb hbox hg) | ((with_reducible refine gd 4 rfl ?_); refine bx 4 (cs := #[.slice none 0 0, .slice none 0 0]) (t := 38) ?_; intro bN hg w5 hbox hb; have O := am hbox; have dx := gwb HB hg; replace HB := hs HB hb; have aQ := nq z hg; have aR := nq' z hg; replace z := bb z hb rfl; have cG := nq J hg; have cH := nq' J hg; replace J := bb J hb rfl; clear hb hbox hg) | ((with_reducible refine gd 8 rfl ?_); refine Kd.R_lit k55 _ 55 ?hg (N := 8) ?hd (xs := ([] : List (S55))) (inner := []) (ok := fun _ => True) (okp := fun _ => True) ?hr ?hp (fun _ hk => hk) trivial (Below.refl _ _) (Nat.le_refl _) (by simp) ?_; (case hd => rfl); (case hg => rfl); (case hr => first | (go_simp; done) | (go_simp; rfl)); (case hp => exact (Reps.none _ _)); intro dy w6 a8 hb hg_ hnew_; clear hg_ hnew_; (first | rw [← co.out] at a8 | (simp only [Int.reduceToNat] at a8; rw [← co.out] at a8)); have aY := am (Kd.R_lower (Kd.R_newB a8 (g := aa) (o := .cells #[.int .i64 Y, .int .i64 Z] 55 (0, 0)) (bf J.out)) (below_size (bs HB.out))); replace z := bb z hb rfl; replace J := bb J hb rfl; replace O := bb O hb rfl; replace HB := hs HB hb; clear hb a8) | ((with_reducible refine gd 9 rfl ?_); refine Kd.R_lit k57 _ 57 ?hg (N := 9) ?hd (xs := ([] : List (S57))) (inner := []) (ok := fun _ => True) (okp := fun _ => True) ?hr ?hp (fun _ hk => hk) trivial (Below.refl _ _) (Nat.le_refl _) (by simp) ?_; (case hd => rfl); (case hg => rfl); (case hr => first | (go_simp; done) | (go_simp; rfl)); (case hp => exact (Reps.none _ _)); intro dz w8 a9 hb hg_ hnew_; clear hg_ hnew_; (first | rw [← cp.out] at a9 | (simp only [Int.reduceToNat] at a9; rw [← cp.out] at a9)); replace aY := rb aY hb; have bu := am (Kd.R_lower a9 (below_size (bs HB.out))); replace z := bb z hb rfl; replace J := bb J hb rfl; replace O := bb O hb rfl; replace HB := hs HB hb; clear hb a9; obtain ⟨ba, bc, cI⟩ := Kd.R_slice bu.out; subst cI; obtain ⟨ct, cu, cJ⟩ := Kd.R_slice aY.out; subst cJ) | ((with_reducible refine gd 5 rfl ?_); refine bx 5 (cs := #[.slice none 0 0, .slice none 0 0]) (t := 38) ?_; intro aI hg cK hbox hb; replace aY := rb aY hb; replace bu := rb bu hb; have I := am hbox; have dA := gwb HB hg; replace HB := hs HB hb; have aq := nq z hg; have ar := nq' z hg; replace z := bb z hb rfl; have bv := nq J hg; have bw := nq' J hg; replace J := bb J hb rfl; have bz := nq O hg; have bA := nq' O hg; replace O := bb O hb rfl; clear hb hbox hg; have dB := ar.out; have dC := aq.out; have dD := bw.out; have dE := bv.out; have dF := bA.out; have dG := bz.out; obtain ⟨cv, cy⟩ := bc2 (w := cK) I.out; have cz := blk_frozen I.out))
 go_loopg [6] k (fun kq v6 w' => ∃ (L : Int) (al : List (S55)) (ak : Value), v6 = .int .i64 L ∧ Aside0 (spec_l2Off.l0 kq L M y Y Z al ap = some (r1, r2)) ∧ Aside0 (kq ≤ k) ∧ Aside0 (Kd.R k55 55 w' w.heap.size (fun k_ => k_ ≠ aa) ak al) ∧ Aside0 (Kd.R k57 57 w' w.heap.size (fun _ => True) (.slice ba ap.length bc) ap) ∧ Aside0 (w'.heap[ab]? = some (.cells #[(.slice ax M.length ai), (.slice aH y.length aj)] 38 (0, 0))) ∧ Aside0 (w'.heap[aa]? = some (.cells #[.int .i64 Y, .int .i64 Z] 55 (0, 0))) ∧ Aside0 (w'.heap[bN]? = some (.cells #[(.slice none 0 0), (.slice none 0 0)] 38 (0, 0))) ∧ Aside0 (w'.heap[aI]? = some (.cells #[ak, (.slice ba ap.length bc)] 38 (0, 0))) ∧ Aside0 (Below w.heap.size w w'))
 case atStart => exact ⟨(0), (a7), (.slice ct a7.length cu), eqs, H', ⟨Nat.le_refl _⟩, ⟨Kd.R_mono (rt aY.out I.out (by decide)) (fun _ hk => hk.2)⟩, ⟨Kd.R_mono (rt bu.out I.out (by decide)) (fun _ hk => trivial)⟩, ⟨bf z.out⟩, ⟨bf J.out⟩, ⟨bf O.out⟩, ⟨by (with_reducible repeat (first | refine blk_drewN ?_ _ | refine blk_drew ?_ | refine blk_alloc ?_ _)); refine blk_put (cs := #[.slice ct a7.length cu, .slice none 0 0]) ?_ 1 _ rfl; (with_reducible repeat (first | refine blk_drewN ?_ _ | refine blk_drew ?_ | refine blk_alloc ?_ _)); refine blk_put (cs := #[.slice none 0 0, .slice none 0 0]) ?_ 0 _ rfl; exact bf I.out⟩, ⟨bs HB.out⟩⟩
 case round =>
  clear H'
  try clear c1
  try clear p2
  try clear c3
  try clear cL
  try clear cM
  try clear cN
  try clear cv cy
  try clear cz
  obtain ⟨L, al, ak, rfl, HA, au, T, X, z, J, O, I, HB⟩ := hrel
  cases gk with
  | zero => exact absurd HA.out (by simp [spec_l2Off.l0])
  | succ k1 =>
   have H := HA.out
   clear HA
   simp only [spec_l2Off.l0] at H
   by_cases aT : L < (M.length : Int)
   ·rw [if_pos aT] at H
    have cA : decide (L < (M.length : Int)) = true := decide_eq_true aT
    clear aT
    by_cases be : 0 ≤ L
    ·rw [if_pos be] at H
     have cO : decide (0 ≤ L) = true := decide_eq_true be
     clear be
     by_cases aU : (!(((rd_T55 M L).f0) == Y) || (!(((rd_T55 M L).f1) == Z))) = true
     ·rw [if_pos aU] at H
      have cB : (!(((rd_T55 M L).f0) == Y) || (!(((rd_T55 M L).f1) == Z))) = true := aU
      clear aU
      by_cases bg : al.length < 8796093022208
      ·rw [if_pos bg] at H
       have cP := am bg
       clear bg
       obtain ⟨bO, bP⟩ : ∃ y_ : List (S55), y_ = (al ++ [(⟨(rd_T55 M L).f0, (rd_T55 M L).f1⟩ : S55)]) := ⟨_, rfl⟩
       replace H : (spec_l2Off.l0 k1 (wrap64 (L + 1)) M y Y Z bO ap) = some (r1, r2) := by first | (rw [bP]; exact H) | exact H
       have cQ := am bP
       clear bP
       have H' := am H
       clear H
       have dH := aM.out
       have dI := aN.out
       have dJ := aQ.out
       have dK := aR.out
       have dL := aq.out
       have dM := ar.out
       obtain ⟨cR, cS⟩ := bc2 (w := wr) z.out
       have cT := blk_frozen z.out
       try go_wp2
       replace T := rd_ T
       replace X := rd_ X
       replace z := bd z
       replace J := bd J
       replace O := bd O
       replace I := bd I
       replace HB := hd HB
       have aJ : 0 ≤ (L : Int) := oda
       have aK : L < (M.length : Int) := oda
       obtain ⟨ac, bQ, av, aw⟩ := at_T55 bK.out L aJ aK
       have bR := aw
       have bS := av
       cases bQ
       replace av := cb HB av
       replace aw := cb HB aw
       replace aJ := eq_true aJ
       replace aK := eq_true aK
       refine sta 7 (fun w' => w'.cell? ⟨ab, 0, none⟩ = some (.slice (some ac) M.length ai) ∧ w'.cell? ⟨ab, 1, none⟩ = some (.slice aH y.length aj) ∧ w'.cell? ⟨aa, 0, none⟩ = some (.int .i64 Y) ∧ w'.cell? ⟨aa, 1, none⟩ = some (.int .i64 Z) ∧ w'.cell? (ac.add ((L).toNat * 2)) = some (.int .i64 ((rd_T55 M L).f0)) ∧ w'.cell? ⟨(ac.add ((L).toNat * 2)).block, (ac.add ((L).toNat * 2)).off + 1, none⟩ = some (.int .i64 ((rd_T55 M L).f1))) [] ⟨cx z 0, cx z 1, cx J 0, cx J 1, (cb HB bS), (cb HB bR)⟩ (fun hHeld => ?_)
       generalize wr.drew = cU at T X z J O I HB av aw hHeld ⊢
       refine pu 0 18 ?_
       refine pu 2 20 ?_
       refine tk 1 19 ?_
       refine pu 3 21 ?_
       refine tk 4 22 ?_
       refine tk 5 23 ?_
       refine pu 6 24 ?_
       refine dn ?_
       try go_wp2
       replace T := rd_ T
       replace X := rd_ X
       replace z := bd z
       replace J := bd J
       replace O := bd O
       replace I := bd I
       replace HB := hd HB
       have bB : 0 ≤ (L : Int) := oda
       have bC : L < (M.length : Int) := oda
       obtain ⟨cV, cW, bh, bi⟩ := at_T55 bK.out L bB bC
       have bT := bi
       have bU := bh
       obtain rfl : ac = cV := (by injection cW)
       replace bh := cb HB bh
       replace bi := cb HB bi
       replace bB := eq_true bB
       replace bC := eq_true bC
       refine sta 11 (fun w' => w'.cell? ⟨aI, 0, none⟩ = some (ak) ∧ w'.cell? ⟨aI, 1, none⟩ = some (.slice ba ap.length bc) ∧ w'.cell? ⟨ab, 0, none⟩ = some (.slice (some ac) M.length ai) ∧ w'.cell? ⟨ab, 1, none⟩ = some (.slice aH y.length aj) ∧ w'.cell? (ac.add ((L).toNat * 2)) = some (.int .i64 ((rd_T55 M L).f0)) ∧ w'.cell? ⟨(ac.add ((L).toNat * 2)).block, (ac.add ((L).toNat * 2)).off + 1, none⟩ = some (.int .i64 ((rd_T55 M L).f1))) [10] ⟨cx I 0, cx I 1, cx z 0, cx z 1, (cb HB bU), (cb HB bT)⟩ (fun hHeld => ?_); refine with_tabW spec_l2Off.tab6 spec_l2Off.bits6 (fun HT_ HW_ => ?_)
       generalize cU.drew = dN at T X z J O I HB bh bi hHeld ⊢
       refine pu 0 25 ?_
       refine pu 2 27 ?_
       refine pu 4 29 ?_
       refine tk 1 26 ?_
       refine tk 3 28 ?_
       refine pu 5 30 ?_
       refine tk 6 31 ?_
       refine on 7 32 (fun K hK => ?_)
       refine va ?_
       refine hK.out _ _ ⟨cx I 0, cx I 1, cx z 0, cx z 1, ca (cb HB bU), ca (cb HB bT)⟩ (fun hHeld => ?_)
       clear hK K
       refine nrm 32 ?_
       refine on 8 33 (fun K hK => ?_)
       refine Kd.R_append_step k55 (w0 := w) w.heap.size (by rfl) (.tmp 26) (.tmp 32) 35 55 (.agg #[(.int .i64 0), (.int .i64 0)]) 16 rfl Try.underlying35 info55 rfl (by decide) (by omega) ak al (⟨(rd_T55 M L).f0, (rd_T55 M L).f1⟩ : S55) [.int .i64 ((rd_T55 M L).f0), .int .i64 ((rd_T55 M L).f1)] (fun k_ => k_ ≠ aa) (fun _ => False) rfl rfl ?aP (fun _ hk => hk.elim) ?aF ?aO ?aB ?aS ?aL ?_
       (case aP => exact k55_mkM _ _ _ (⟨(rd_T55 M L).f0, (rd_T55 M L).f1⟩ : S55))
       (case aB => exact (bs HB.out))
       (case aF => exact (fun k_ hk => Kd.freshB (g := aa) (o := .cells #[.int .i64 Y, .int .i64 Z] 55 (0, 0)) (bf J.out) k_ hk))
       (case aO => exact (rl T.out))
       (case aS => exact (below_size (bs HB.out)))
       (case aL => have := cP.out; omega)
       intro dO cX ho hb hg hat
       rw [← cQ.out] at ho
       replace X := am (Kd.R_over' (rl X.out) (Kd.R_typed (rl T.out)) (by decide) hg)
       replace z := gr z T hg
       replace J := am (blk_grown (g := aa) (o := .cells #[.int .i64 Y, .int .i64 Z] 55 (0, 0)) (bf J.out) hg (Kd.R_away T.out (fun _ hk => hk)))
       replace O := gr O T hg
       replace I := gr I T hg
       replace HB := am hb
       have cC := am ho
       clear T
       clear ho hb hg hat
       obtain ⟨cY, cZ, cD⟩ := Kd.R_slice cC.out
       (first | subst cD | (injection cD with bj bV bk; have bW := bj.symm; have bX := bk.symm; clear bj bV bk; subst bW; subst bX))
       refine hK.out _ _ ⟨cx I 0, cx I 1, cx z 0, cx z 1, (cb HB bU), (cb HB bT)⟩ (fun hHeld => ?_)
       clear hK K
       refine nrm 33 ?_
       refine pu 9 34 ?_
       refine la0 10 (fun K hK => ?_)
       have dP : cX.cell? ⟨aI, 0, none⟩ = some (ak) := cx I 0
       have dQ := blk_frozen I.out 0
       have dR := aq.out
       have dS := bv.out
       have dT := bz.out
       have dU := ar.out
       have dV := bw.out
       have dW := bA.out
       refine sk ?_
       refine hK.out _ _ ?_
       clear hK K
       refine dn ?_
       try go_wp2
       go_roundg k1
       case measure => have := au.out; omega
       case rel => exact ⟨(wrap64 (L + 1)), (bO), (.slice cY bO.length cZ), eqs, H', ⟨by have := au.out; omega⟩, ⟨Kd.R_mono (rt cC.out I.out (by decide)) (fun _ hk => hk)⟩, ⟨Kd.R_mono (rt X.out I.out (by decide)) (fun _ hk => trivial)⟩, ⟨bf z.out⟩, ⟨bf J.out⟩, ⟨bf O.out⟩, ⟨by (with_reducible repeat (first | refine blk_drewN ?_ _ | refine blk_drew ?_ | refine blk_alloc ?_ _)); refine blk_put (cs := #[ak, .slice ba ap.length bc]) ?_ 0 _ rfl; exact bf I.out⟩, ⟨bs HB.out⟩⟩
      ·rw [if_neg bg] at H
       exact absurd H (by simp)
     ·rw [if_neg aU] at H
      have cB : (!(((rd_T55 M L).f0) == Y) || (!(((rd_T55 M L).f1) == Z))) = false := by simpa using aU
      clear aU
      have H' := am H
      clear H
      have dX := aM.out
      have dY := aN.out
      have dZ := aQ.out
      have d0 := aR.out
      have d1 := aq.out
      have d2 := ar.out
      obtain ⟨c0, c4⟩ := bc2 (w := wr) z.out
      have c5 := blk_frozen z.out
      try go_wp2
      replace T := rd_ T
      replace X := rd_ X
      replace z := bd z
      replace J := bd J
      replace O := bd O
      replace I := bd I
      replace HB := hd HB
      have aJ : 0 ≤ (L : Int) := oda
      have aK : L < (M.length : Int) := oda
      obtain ⟨ac, bQ, av, aw⟩ := at_T55 bK.out L aJ aK
      have bR := aw
      have bS := av
      cases bQ
      replace av := cb HB av
      replace aw := cb HB aw
      replace aJ := eq_true aJ
      replace aK := eq_true aK
      refine sta 7 (fun w' => w'.cell? ⟨ab, 0, none⟩ = some (.slice (some ac) M.length ai) ∧ w'.cell? ⟨ab, 1, none⟩ = some (.slice aH y.length aj) ∧ w'.cell? ⟨aa, 0, none⟩ = some (.int .i64 Y) ∧ w'.cell? ⟨aa, 1, none⟩ = some (.int .i64 Z) ∧ w'.cell? (ac.add ((L).toNat * 2)) = some (.int .i64 ((rd_T55 M L).f0)) ∧ w'.cell? ⟨(ac.add ((L).toNat * 2)).block, (ac.add ((L).toNat * 2)).off + 1, none⟩ = some (.int .i64 ((rd_T55 M L).f1))) [] ⟨cx z 0, cx z 1, cx J 0, cx J 1, (cb HB bS), (cb HB bR)⟩ (fun hHeld => ?_)
      generalize wr.drew = d3 at T X z J O I HB av aw hHeld ⊢
      refine pu 0 18 ?_
      refine pu 2 20 ?_
      refine tk 1 19 ?_
      refine pu 3 21 ?_
      refine tk 4 22 ?_
      refine tk 5 23 ?_
      refine pu 6 24 ?_
      refine dn ?_
      try go_wp2
      go_roundg k1
      case measure => have := au.out; omega
      case rel => exact ⟨(wrap64 (L + 1)), (al), (ak), eqs, H', ⟨by have := au.out; omega⟩, ⟨rl T.out⟩, ⟨rl X.out⟩, ⟨bf z.out⟩, ⟨bf J.out⟩, ⟨bf O.out⟩, ⟨bf I.out⟩, ⟨bs HB.out⟩⟩
    ·rw [if_neg be] at H
     exact absurd H (by simp)
   ·rw [if_neg aT] at H
    have cA : decide (L < (M.length : Int)) = false := decide_eq_false aT
    clear aT
    have H' := am H
    clear H
    have d4 := aM.out
    have d5 := aN.out
    have d6 := aQ.out
    have d7 := aR.out
    have d8 := aq.out
    have d9 := ar.out
    obtain ⟨c6, c7⟩ := bc2 (w := wr) z.out
    have c8 := blk_frozen z.out
    go_wp2
    go_loopg [7] k1 (fun kq v7 w' => ∃ (s : Int) (ay : List (S57)) (az : Value), v7 = .int .i64 s ∧ Aside0 (spec_l2Off.l1 kq s M y Y Z al ay = some (r1, r2)) ∧ Aside0 (kq ≤ k1) ∧ Aside0 (Kd.R k55 55 w' w.heap.size (fun k_ => k_ ≠ aa) ak al) ∧ Aside0 (Kd.R k57 57 w' w.heap.size (fun _ => True) az ay) ∧ Aside0 (w'.heap[ab]? = some (.cells #[(.slice ax M.length ai), (.slice aH y.length aj)] 38 (0, 0))) ∧ Aside0 (w'.heap[aa]? = some (.cells #[.int .i64 Y, .int .i64 Z] 55 (0, 0))) ∧ Aside0 (w'.heap[bN]? = some (.cells #[(.slice none 0 0), (.slice none 0 0)] 38 (0, 0))) ∧ Aside0 (w'.heap[aI]? = some (.cells #[ak, az] 38 (0, 0))) ∧ Aside0 (Below w.heap.size w w'))
    case atStart => exact ⟨(0), (ap), (.slice ba ap.length bc), eqs, H', ⟨Nat.le_refl _⟩, ⟨rl T.out⟩, ⟨rl X.out⟩, ⟨bf z.out⟩, ⟨bf J.out⟩, ⟨bf O.out⟩, ⟨bf I.out⟩, ⟨bs HB.out⟩⟩
    case round =>
     clear H'
     try clear c1
     try clear c2
     try clear p2
     try clear c3
     try clear p4
     try clear q4
     try clear ea
     try clear p6
     try clear cL
     try clear cM
     try clear cN
     try clear aT
     try clear cA
     try clear be
     try clear cO
     try clear aU
     try clear cB
     try clear bg
     try clear eb
     try clear ec
     try clear ed
     try clear ee
     try clear ef
     try clear eg
     try clear eh
     try clear ei
     try clear ej
     try clear cv cy
     try clear cR cS
     try clear c0 c4
     try clear c6 c7
     try clear cz
     try clear cT
     try clear c5
     try clear c8
     try clear av
     try clear aw
     try clear bh
     try clear bi
     try clear p2
     try clear aJ
     try clear bB
     try clear aK
     try clear bC
     obtain ⟨s, ay, az, rfl, HA, aZ, T, X, z, J, O, I, HB⟩ := hrel
     cases gk with
     | zero => exact absurd HA.out (by simp [spec_l2Off.l1])
     | succ k2 =>
      have H := HA.out
      clear HA
      simp only [spec_l2Off.l1] at H
      by_cases a4 : s < (y.length : Int)
      ·rw [if_pos a4] at H
       have c9 : decide (s < (y.length : Int)) = true := decide_eq_true a4
       clear a4
       by_cases bD : 0 ≤ s
       ·rw [if_pos bD] at H
        have ek : decide (0 ≤ s) = true := decide_eq_true bD
        clear bD
        by_cases a5 : (!(((rd_T57 y s).f1.f0) == Y) || (!(((rd_T57 y s).f1.f1) == Z))) = true
        ·rw [if_pos a5] at H
         have da : (!(((rd_T57 y s).f1.f0) == Y) || (!(((rd_T57 y s).f1.f1) == Z))) = true := a5
         clear a5
         by_cases a6 : (!(((rd_T57 y s).f2.f0) == Y) || (!(((rd_T57 y s).f2.f1) == Z))) = true
         ·rw [if_pos a6] at H
          have db : (!(((rd_T57 y s).f2.f0) == Y) || (!(((rd_T57 y s).f2.f1) == Z))) = true := a6
          clear a6
          by_cases bE : ay.length < 3518437208883
          ·rw [if_pos bE] at H
           have dc := am bE
           clear bE
           obtain ⟨bY, bZ⟩ : ∃ y_ : List (S57), y_ = (ay ++ [(⟨(rd_T57 y s).f0, (⟨(rd_T57 y s).f1.f0, (rd_T57 y s).f1.f1⟩ : S55), (⟨(rd_T57 y s).f2.f0, (rd_T57 y s).f2.f1⟩ : S55)⟩ : S57)]) := ⟨_, rfl⟩
           replace H : (spec_l2Off.l1 k2 (wrap64 (s + 1)) M y Y Z al bY) = some (r1, r2) := by first | (rw [bZ]; exact H) | exact H
           have dd := am bZ
           clear bZ
           have H' := am H
           clear H
           have el := aM.out
           have em := aN.out
           have en := aQ.out
           have eo := aR.out
           have ep := aq.out
           have eq := ar.out
           obtain ⟨er, es⟩ := bc2 (w := wr) z.out
           have et := blk_frozen z.out
           try go_wp2
           replace T := rd_ T
           replace X := rd_ X
           replace z := bd z
           replace J := bd J
           replace O := bd O
           replace I := bd I
           replace HB := hd HB
           have an : 0 ≤ (s : Int) := oda
           have ao : s < (y.length : Int) := oda
           obtain ⟨G, bl, ad, ae, af, ag, ah⟩ := at_T57 aX.out s an ao
           have bm := ah
           have bn := ag
           have bo := af
           have br := ae
           have bt := ad
           cases bl
           replace ad := cb HB ad
           replace ae := cb HB ae
           replace af := cb HB af
           replace ag := cb HB ag
           replace ah := cb HB ah
           replace an := eq_true an
           replace ao := eq_true ao
           have aV : 0 ≤ (s : Int) := oda
           have aW : s < (y.length : Int) := oda
           obtain ⟨b0, b1, aA, aC, aD, aE, aG⟩ := at_T57 aX.out s aV aW
           have b2 := aG
           have b3 := aE
           have b4 := aD
           have b5 := aC
           have b6 := aA
           obtain rfl : G = b0 := (by injection b1)
           replace aA := cb HB aA
           replace aC := cb HB aC
           replace aD := cb HB aD
           replace aE := cb HB aE
           replace aG := cb HB aG
           replace aV := eq_true aV
           replace aW := eq_true aW
           refine sta 18 (fun w' => w'.cell? ⟨ab, 0, none⟩ = some (.slice ax M.length ai) ∧ w'.cell? ⟨ab, 1, none⟩ = some (.slice (some G) y.length aj) ∧ w'.cell? ⟨aa, 0, none⟩ = some (.int .i64 Y) ∧ w'.cell? ⟨aa, 1, none⟩ = some (.int .i64 Z) ∧ w'.cell? (G.add ((s).toNat * 5)) = some (.int .i64 ((rd_T57 y s).f0)) ∧ w'.cell? ⟨(G.add ((s).toNat * 5)).block, (G.add ((s).toNat * 5)).off + 1, none⟩ = some (.int .i64 ((rd_T57 y s).f1.f0)) ∧ w'.cell? ⟨(G.add ((s).toNat * 5)).block, (G.add ((s).toNat * 5)).off + 2, none⟩ = some (.int .i64 ((rd_T57 y s).f1.f1)) ∧ w'.cell? ⟨(G.add ((s).toNat * 5)).block, (G.add ((s).toNat * 5)).off + 3, none⟩ = some (.int .i64 ((rd_T57 y s).f2.f0)) ∧ w'.cell? ⟨(G.add ((s).toNat * 5)).block, (G.add ((s).toNat * 5)).off + 4, none⟩ = some (.int .i64 ((rd_T57 y s).f2.f1)) ∧ w'.cell? (G.add ((s).toNat * 5)) = some (.int .i64 ((rd_T57 y s).f0)) ∧ w'.cell? ⟨(G.add ((s).toNat * 5)).block, (G.add ((s).toNat * 5)).off + 1, none⟩ = some (.int .i64 ((rd_T57 y s).f1.f0)) ∧ w'.cell? ⟨(G.add ((s).toNat * 5)).block, (G.add ((s).toNat * 5)).off + 2, none⟩ = some (.int .i64 ((rd_T57 y s).f1.f1)) ∧ w'.cell? ⟨(G.add ((s).toNat * 5)).block, (G.add ((s).toNat * 5)).off + 3, none⟩ = some (.int .i64 ((rd_T57 y s).f2.f0)) ∧ w'.cell? ⟨(G.add ((s).toNat * 5)).block, (G.add ((s).toNat * 5)).off + 4, none⟩ = some (.int .i64 ((rd_T57 y s).f2.f1))) [] ⟨cx z 0, cx z 1, cx J 0, cx J 1, (cb HB bt), (cb HB br), (cb HB bo), (cb HB bn), (cb HB bm), (cb HB b6), (cb HB b5), (cb HB b4), (cb HB b3), (cb HB b2)⟩ (fun hHeld => ?_); refine with_tabW spec_l2Off.tab10 spec_l2Off.bits10 (fun HT_ HW_ => ?_)
           generalize wr.drew = de at T X z J O I HB ad ae af ag ah aA aC aD aE aG hHeld ⊢
           refine pu 0 42 ?_
           refine pu 2 44 ?_
           refine tk 1 43 ?_
           refine pu 3 45 ?_
           refine pu 4 46 ?_
           refine tk 5 47 ?_
           refine tk 6 48 ?_
           refine pu 7 49 ?_
           refine pu 8 50 ?_
           refine pu 9 51 ?_
           refine pu 11 53 ?_
           refine tk 10 52 ?_
           refine pu 12 54 ?_
           refine pu 13 55 ?_
           refine tk 14 56 ?_
           refine tk 15 57 ?_
           refine pu 16 58 ?_
           refine pu 17 59 ?_
           refine dn ?_
           try go_wp2
           replace T := rd_ T
           replace X := rd_ X
           replace z := bd z
           replace J := bd J
           replace O := bd O
           replace I := bd I
           replace HB := hd HB
           have b7 : 0 ≤ (s : Int) := oda
           have b8 : s < (y.length : Int) := oda
           obtain ⟨df, dg, bF, bG, bH, bI, bJ⟩ := at_T57 aX.out s b7 b8
           have b9 := bJ
           have ce := bI
           have cf := bH
           have cg := bG
           have ch := bF
           obtain rfl : G = df := (by injection dg)
           replace bF := cb HB bF
           replace bG := cb HB bG
           replace bH := cb HB bH
           replace bI := cb HB bI
           replace bJ := cb HB bJ
           replace b7 := eq_true b7
           replace b8 := eq_true b8
           refine sta 11 (fun w' => w'.cell? ⟨aI, 0, none⟩ = some (ak) ∧ w'.cell? ⟨aI, 1, none⟩ = some (az) ∧ w'.cell? ⟨ab, 0, none⟩ = some (.slice ax M.length ai) ∧ w'.cell? ⟨ab, 1, none⟩ = some (.slice (some G) y.length aj) ∧ w'.cell? (G.add ((s).toNat * 5)) = some (.int .i64 ((rd_T57 y s).f0)) ∧ w'.cell? ⟨(G.add ((s).toNat * 5)).block, (G.add ((s).toNat * 5)).off + 1, none⟩ = some (.int .i64 ((rd_T57 y s).f1.f0)) ∧ w'.cell? ⟨(G.add ((s).toNat * 5)).block, (G.add ((s).toNat * 5)).off + 2, none⟩ = some (.int .i64 ((rd_T57 y s).f1.f1)) ∧ w'.cell? ⟨(G.add ((s).toNat * 5)).block, (G.add ((s).toNat * 5)).off + 3, none⟩ = some (.int .i64 ((rd_T57 y s).f2.f0)) ∧ w'.cell? ⟨(G.add ((s).toNat * 5)).block, (G.add ((s).toNat * 5)).off + 4, none⟩ = some (.int .i64 ((rd_T57 y s).f2.f1))) [10] ⟨cx I 0, cx I 1, cx z 0, cx z 1, (cb HB ch), (cb HB cg), (cb HB cf), (cb HB ce), (cb HB b9)⟩ (fun hHeld => ?_); refine with_tabW spec_l2Off.tab11 spec_l2Off.bits11 (fun HT_ HW_ => ?_)
           generalize de.drew = eu at T X z J O I HB bF bG bH bI bJ hHeld ⊢
           refine pu 0 60 ?_
           refine pu 2 62 ?_
           refine pu 4 64 ?_
           refine tk 1 61 ?_
           refine tk 3 63 ?_
           refine pu 5 65 ?_
           refine tk 6 66 ?_
           refine on 7 67 (fun K hK => ?_)
           refine va ?_
           refine hK.out _ _ ⟨cx I 0, cx I 1, cx z 0, cx z 1, ca (cb HB ch), ca (cb HB cg), ca (cb HB cf), ca (cb HB ce), ca (cb HB b9)⟩ (fun hHeld => ?_)
           clear hK K
           refine nrm 67 ?_
           refine on 8 68 (fun K hK => ?_)
           refine Kd.R_append_step k57 (w0 := w) w.heap.size (by rfl) (.tmp 61) (.tmp 67) 36 57 (.agg #[(.int .i64 0), (.int .i64 0), (.int .i64 0), (.int .i64 0), (.int .i64 0)]) 40 rfl Try.underlying36 info57 rfl (by decide) (by omega) az ay (⟨(rd_T57 y s).f0, (⟨(rd_T57 y s).f1.f0, (rd_T57 y s).f1.f1⟩ : S55), (⟨(rd_T57 y s).f2.f0, (rd_T57 y s).f2.f1⟩ : S55)⟩ : S57) [.int .i64 ((rd_T57 y s).f0), .int .i64 ((rd_T57 y s).f1.f0), .int .i64 ((rd_T57 y s).f1.f1), .int .i64 ((rd_T57 y s).f2.f0), .int .i64 ((rd_T57 y s).f2.f1)] (fun _ => True) (fun _ => False) rfl rfl ?aP (fun _ hk => hk.elim) ?aF ?aO ?aB ?aS ?aL ?_
           (case aP => exact k57_mkM _ _ _ (⟨(rd_T57 y s).f0, (⟨(rd_T57 y s).f1.f0, (rd_T57 y s).f1.f1⟩ : S55), (⟨(rd_T57 y s).f2.f0, (rd_T57 y s).f2.f1⟩ : S55)⟩ : S57))
           (case aB => exact (bs HB.out))
           (case aF => exact (fun _ _ => trivial))
           (case aO => exact (rl X.out))
           (case aS => exact (below_size (bs HB.out)))
           (case aL => have := dc.out; omega)
           intro ev dh ho hb hg hat
           rw [← dd.out] at ho
           replace T := am (Kd.R_over' (rl T.out) (Kd.R_typed (rl X.out)) (by decide) hg)
           replace z := gr z X hg
           replace J := gr J X hg
           replace O := gr O X hg
           replace I := gr I X hg
           replace HB := am hb
           have cE := am ho
           clear X
           clear ho hb hg hat
           obtain ⟨di, dj, cF⟩ := Kd.R_slice cE.out
           (first | subst cF | (injection cF with bj bV bk; have bW := bj.symm; have bX := bk.symm; clear bj bV bk; subst bW; subst bX))
           refine hK.out _ _ ⟨cx I 0, cx I 1, cx z 0, cx z 1, (cb HB ch), (cb HB cg), (cb HB cf), (cb HB ce), (cb HB b9)⟩ (fun hHeld => ?_)
           clear hK K
           refine nrm 68 ?_
           refine pu 9 69 ?_
           refine la0 10 (fun K hK => ?_)
           have ew : dh.cell? ⟨aI, 1, none⟩ = some (az) := cx I 1
           have ex := blk_frozen I.out 1
           have ey := aq.out
           have ez := bv.out
           have eA := bz.out
           have eB := ar.out
           have eC := bw.out
           have eD := bA.out
           refine sk ?_
           refine hK.out _ _ ?_
           clear hK K
           refine dn ?_
           try go_wp2
           go_roundg k2
           case measure => have := au.out; have := aZ.out; omega
           case rel => exact ⟨(wrap64 (s + 1)), (bY), (.slice di bY.length dj), eqs, H', ⟨by have := au.out; have := aZ.out; omega⟩, ⟨Kd.R_mono (rt T.out I.out (by decide)) (fun _ hk => hk)⟩, ⟨Kd.R_mono (rt cE.out I.out (by decide)) (fun _ hk => trivial)⟩, ⟨bf z.out⟩, ⟨bf J.out⟩, ⟨bf O.out⟩, ⟨by (with_reducible repeat (first | refine blk_drewN ?_ _ | refine blk_drew ?_ | refine blk_alloc ?_ _)); refine blk_put (cs := #[ak, az]) ?_ 1 _ rfl; exact bf I.out⟩, ⟨bs HB.out⟩⟩
          ·rw [if_neg bE] at H
           exact absurd H (by simp)
         ·rw [if_neg a6] at H
          have db : (!(((rd_T57 y s).f2.f0) == Y) || (!(((rd_T57 y s).f2.f1) == Z))) = false := by simpa using a6
          clear a6
          have H' := am H
          clear H
          have eE := aM.out
          have eF := aN.out
          have eG := aQ.out
          have eH := aR.out
          have eI := aq.out
          have eJ := ar.out
          obtain ⟨eK, eL⟩ := bc2 (w := wr) z.out
          have eM := blk_frozen z.out
          try go_wp2
          replace T := rd_ T
          replace X := rd_ X
          replace z := bd z
          replace J := bd J
          replace O := bd O
          replace I := bd I
          replace HB := hd HB
          have an : 0 ≤ (s : Int) := oda
          have ao : s < (y.length : Int) := oda
          obtain ⟨G, bl, ad, ae, af, ag, ah⟩ := at_T57 aX.out s an ao
          have bm := ah
          have bn := ag
          have bo := af
          have br := ae
          have bt := ad
          cases bl
          replace ad := cb HB ad
          replace ae := cb HB ae
          replace af := cb HB af
          replace ag := cb HB ag
          replace ah := cb HB ah
          replace an := eq_true an
          replace ao := eq_true ao
          have aV : 0 ≤ (s : Int) := oda
          have aW : s < (y.length : Int) := oda
          obtain ⟨b0, b1, aA, aC, aD, aE, aG⟩ := at_T57 aX.out s aV aW
          have b2 := aG
          have b3 := aE
          have b4 := aD
          have b5 := aC
          have b6 := aA
          obtain rfl : G = b0 := (by injection b1)
          replace aA := cb HB aA
          replace aC := cb HB aC
          replace aD := cb HB aD
          replace aE := cb HB aE
          replace aG := cb HB aG
          replace aV := eq_true aV
          replace aW := eq_true aW
          refine sta 18 (fun w' => w'.cell? ⟨ab, 0, none⟩ = some (.slice ax M.length ai) ∧ w'.cell? ⟨ab, 1, none⟩ = some (.slice (some G) y.length aj) ∧ w'.cell? ⟨aa, 0, none⟩ = some (.int .i64 Y) ∧ w'.cell? ⟨aa, 1, none⟩ = some (.int .i64 Z) ∧ w'.cell? (G.add ((s).toNat * 5)) = some (.int .i64 ((rd_T57 y s).f0)) ∧ w'.cell? ⟨(G.add ((s).toNat * 5)).block, (G.add ((s).toNat * 5)).off + 1, none⟩ = some (.int .i64 ((rd_T57 y s).f1.f0)) ∧ w'.cell? ⟨(G.add ((s).toNat * 5)).block, (G.add ((s).toNat * 5)).off + 2, none⟩ = some (.int .i64 ((rd_T57 y s).f1.f1)) ∧ w'.cell? ⟨(G.add ((s).toNat * 5)).block, (G.add ((s).toNat * 5)).off + 3, none⟩ = some (.int .i64 ((rd_T57 y s).f2.f0)) ∧ w'.cell? ⟨(G.add ((s).toNat * 5)).block, (G.add ((s).toNat * 5)).off + 4, none⟩ = some (.int .i64 ((rd_T57 y s).f2.f1)) ∧ w'.cell? (G.add ((s).toNat * 5)) = some (.int .i64 ((rd_T57 y s).f0)) ∧ w'.cell? ⟨(G.add ((s).toNat * 5)).block, (G.add ((s).toNat * 5)).off + 1, none⟩ = some (.int .i64 ((rd_T57 y s).f1.f0)) ∧ w'.cell? ⟨(G.add ((s).toNat * 5)).block, (G.add ((s).toNat * 5)).off + 2, none⟩ = some (.int .i64 ((rd_T57 y s).f1.f1)) ∧ w'.cell? ⟨(G.add ((s).toNat * 5)).block, (G.add ((s).toNat * 5)).off + 3, none⟩ = some (.int .i64 ((rd_T57 y s).f2.f0)) ∧ w'.cell? ⟨(G.add ((s).toNat * 5)).block, (G.add ((s).toNat * 5)).off + 4, none⟩ = some (.int .i64 ((rd_T57 y s).f2.f1))) [] ⟨cx z 0, cx z 1, cx J 0, cx J 1, (cb HB bt), (cb HB br), (cb HB bo), (cb HB bn), (cb HB bm), (cb HB b6), (cb HB b5), (cb HB b4), (cb HB b3), (cb HB b2)⟩ (fun hHeld => ?_); refine with_tabW spec_l2Off.tab10 spec_l2Off.bits10 (fun HT_ HW_ => ?_)
          generalize wr.drew = eN at T X z J O I HB ad ae af ag ah aA aC aD aE aG hHeld ⊢
          refine pu 0 42 ?_
          refine pu 2 44 ?_
          refine tk 1 43 ?_
          refine pu 3 45 ?_
          refine pu 4 46 ?_
          refine tk 5 47 ?_
          refine tk 6 48 ?_
          refine pu 7 49 ?_
          refine pu 8 50 ?_
          refine pu 9 51 ?_
          refine pu 11 53 ?_
          refine tk 10 52 ?_
          refine pu 12 54 ?_
          refine pu 13 55 ?_
          refine tk 14 56 ?_
          refine tk 15 57 ?_
          refine pu 16 58 ?_
          refine pu 17 59 ?_
          refine dn ?_
          try go_wp2
          go_roundg k2
          case measure => have := au.out; have := aZ.out; omega
          case rel => exact ⟨(wrap64 (s + 1)), (ay), (az), eqs, H', ⟨by have := au.out; have := aZ.out; omega⟩, ⟨rl T.out⟩, ⟨rl X.out⟩, ⟨bf z.out⟩, ⟨bf J.out⟩, ⟨bf O.out⟩, ⟨bf I.out⟩, ⟨bs HB.out⟩⟩
        ·rw [if_neg a5] at H
         have da : (!(((rd_T57 y s).f1.f0) == Y) || (!(((rd_T57 y s).f1.f1) == Z))) = false := by simpa using a5
         clear a5
         have H' := am H
         clear H
         have eO := aM.out
         have eP := aN.out
         have eQ := aQ.out
         have eR := aR.out
         have eS := aq.out
         have eT := ar.out
         obtain ⟨eU, eV⟩ := bc2 (w := wr) z.out
         have eW := blk_frozen z.out
         try go_wp2
         replace T := rd_ T
         replace X := rd_ X
         replace z := bd z
         replace J := bd J
         replace O := bd O
         replace I := bd I
         replace HB := hd HB
         have an : 0 ≤ (s : Int) := oda
         have ao : s < (y.length : Int) := oda
         obtain ⟨G, bl, ad, ae, af, ag, ah⟩ := at_T57 aX.out s an ao
         have bm := ah
         have bn := ag
         have bo := af
         have br := ae
         have bt := ad
         cases bl
         replace ad := cb HB ad
         replace ae := cb HB ae
         replace af := cb HB af
         replace ag := cb HB ag
         replace ah := cb HB ah
         replace an := eq_true an
         replace ao := eq_true ao
         refine sta 18 (fun w' => w'.cell? ⟨ab, 0, none⟩ = some (.slice ax M.length ai) ∧ w'.cell? ⟨ab, 1, none⟩ = some (.slice (some G) y.length aj) ∧ w'.cell? ⟨aa, 0, none⟩ = some (.int .i64 Y) ∧ w'.cell? ⟨aa, 1, none⟩ = some (.int .i64 Z) ∧ w'.cell? (G.add ((s).toNat * 5)) = some (.int .i64 ((rd_T57 y s).f0)) ∧ w'.cell? ⟨(G.add ((s).toNat * 5)).block, (G.add ((s).toNat * 5)).off + 1, none⟩ = some (.int .i64 ((rd_T57 y s).f1.f0)) ∧ w'.cell? ⟨(G.add ((s).toNat * 5)).block, (G.add ((s).toNat * 5)).off + 2, none⟩ = some (.int .i64 ((rd_T57 y s).f1.f1)) ∧ w'.cell? ⟨(G.add ((s).toNat * 5)).block, (G.add ((s).toNat * 5)).off + 3, none⟩ = some (.int .i64 ((rd_T57 y s).f2.f0)) ∧ w'.cell? ⟨(G.add ((s).toNat * 5)).block, (G.add ((s).toNat * 5)).off + 4, none⟩ = some (.int .i64 ((rd_T57 y s).f2.f1))) [] ⟨cx z 0, cx z 1, cx J 0, cx J 1, (cb HB bt), (cb HB br), (cb HB bo), (cb HB bn), (cb HB bm)⟩ (fun hHeld => ?_); refine with_tabW spec_l2Off.tab10 spec_l2Off.bits10 (fun HT_ HW_ => ?_)
         generalize wr.drew = eX at T X z J O I HB ad ae af ag ah hHeld ⊢
         refine pu 0 42 ?_
         refine pu 2 44 ?_
         refine tk 1 43 ?_
         refine pu 3 45 ?_
         refine pu 4 46 ?_
         refine tk 5 47 ?_
         refine tk 6 48 ?_
         refine pu 7 49 ?_
         refine pu 8 50 ?_
         refine ud 9 51 ?_
         refine ud 10 52 ?_
         refine ud 11 53 ?_
         refine ud 12 54 ?_
         refine ud 13 55 ?_
         refine ud 14 56 ?_
         refine ud 15 57 ?_
         refine ud 16 58 ?_
         refine pu 17 59 ?_
         refine dn ?_
         try go_wp2
         go_roundg k2
         case measure => have := au.out; have := aZ.out; omega
         case rel => exact ⟨(wrap64 (s + 1)), (ay), (az), eqs, H', ⟨by have := au.out; have := aZ.out; omega⟩, ⟨rl T.out⟩, ⟨rl X.out⟩, ⟨bf z.out⟩, ⟨bf J.out⟩, ⟨bf O.out⟩, ⟨bf I.out⟩, ⟨bs HB.out⟩⟩
       ·rw [if_neg bD] at H
        exact absurd H (by simp)
      ·rw [if_neg a4] at H
       have c9 : decide (s < (y.length : Int)) = false := decide_eq_false a4
       clear a4
       simp only [Option.some.injEq, Prod.mk.injEq] at H
       obtain ⟨rfl, rfl⟩ := H
       have eY := aM.out
       have eZ := aN.out
       have e0 := aQ.out
       have e1 := aR.out
       have e2 := aq.out
       have e3 := ar.out
       obtain ⟨e4, e5⟩ := bc2 (w := wr) z.out
       have e6 := blk_frozen z.out
       have e7 := bw.out
       have e8 := bv.out
       have e9 := bA.out
       have fa := bz.out
       obtain ⟨fb, fc⟩ := bc2 (w := wr) I.out
       have fd := blk_frozen I.out
       obtain ⟨dk, dl, dm⟩ := Kd.R_slice T.out
       subst dm
       have fe := cH.out
       have ff := cG.out
       obtain ⟨fg, fh⟩ := bc2 (w := wr) O.out
       have fi := blk_frozen O.out
       obtain ⟨dp, dq, dr⟩ := Kd.R_slice X.out
       subst dr
       go_wp2
       refine bodyPost_ret (results_cell_row rfl _ _ bN 38 #[.slice dk al.length dl, .slice dp ay.length dq] (0, 0) _ rfl (bp O.out rfl) Try.underlying38 rfl (by kernel_rfl)) rfl ?_
       exact ⟨_, _, eqr, Kd.R_mono (rt T.out O.out (by decide)) (fun _ hk => trivial), Kd.R_mono (rt X.out O.out (by decide)) (fun _ hk => trivial), bs HB.out⟩

end Go.Proofs.Ytkbamcicbofjbaa.QFnStoreNarrow
