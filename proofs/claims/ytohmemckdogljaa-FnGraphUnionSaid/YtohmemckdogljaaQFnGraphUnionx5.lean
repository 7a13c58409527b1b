/- Contracts of the Go functions that this law reaches: each does what its plain Lean function says. No condition. -/
import Derived.Test.YtohmemckdogljaaQFnGraphUnionx0
import Derived.Test.YtohmemckdogljaaQFnGraphUnionx3
import Derived.Test.YtohmemckdogljaaQFnGraphUnionx4
namespace Go.Proofs.Ytohmemckdogljaa.QFnGraphUnion
open Go.RowKit Go.Proofs.YtohmemckdogljaaW.PrintWords Go.Proofs.YtohmemckdogljaaW.PrintLast Go.Proofs.YtohmemckdogljaaW.PrintMore Go.Proofs.Ytohmemckdogljaa.Bl
attribute [local go_sem] max2_int min2_int max_two min_two max_three min_three max_four min_four   -- for this text's walks alone
set_option linter.unusedVariables false
set_option linter.unusedSimpArgs false
set_option maxHeartbeats 8000000
set_option maxRecDepth 100000

/-! ### spec_l2View: function 84 -/
mutual
def spec_l2View.l0 : Nat → Int → Int → List (S36) → List (S56) → List (S36) → List (S56) → Option ((List (S36)) × (List (S56)))
 | 0, _, _, _, _, _, _ => none
 | k + 1, D, s, z, J, I, L => if s < (z.length : Int) then (if 0 ≤ s then ((spec_l1Under.f k ((rd_T36 z s).f0) D).bind fun M => (if M = true then (if I.length < 8796093022208 then (spec_l2View.l0 k D (wrap64 (s + 1)) z J (I ++ [(⟨(rd_T36 z s).f0, (rd_T36 z s).f1⟩ : S36)]) L) else (none)) else (spec_l2View.l0 k D (wrap64 (s + 1)) z J I L))) else (none)) else (spec_l2View.l1 k D 0 z J I L)
def spec_l2View.l1 : Nat → Int → Int → List (S36) → List (S56) → List (S36) → List (S56) → Option ((List (S36)) × (List (S56)))
 | 0, _, _, _, _, _, _ => none
 | k + 1, I, s, L, z, J, D => if s < (z.length : Int) then (if 0 ≤ s then ((spec_l1Under.f k ((rd_T56 z s).f0) I).bind fun M => (if M = true then (if D.length < 3518437208883 then (spec_l2View.l1 k I (wrap64 (s + 1)) L z J (D ++ [(⟨(rd_T56 z s).f0, (⟨(rd_T56 z s).f1.f0, (rd_T56 z s).f1.f1⟩ : S36), (⟨(rd_T56 z s).f2.f0, (rd_T56 z s).f2.f1⟩ : S36)⟩ : S56)])) else (none)) else (spec_l2View.l1 k I (wrap64 (s + 1)) L z J D))) else (none)) else (some (J, D))
end
def spec_l2View.f (k : Nat) (s : List (S36)) (z : List (S56)) (D : Int) : Option ((List (S36)) × (List (S56))) := spec_l2View.l0 k D 0 s z (([] : List (S36))) (([] : List (S56)))
def spec_l2View.T6 : Bool × List (List Nat × List Nat) := (true, [([], []), ([0], [0]), ([], []), ([2], [2]), ([], []), ([3, 4], [3, 4]), ([5], [5]), ([6], [6]), ([1, 7], [1, 7]), ([0, 1, 2, 3, 4, 5, 6, 7, 8], []), ([9, 8, 8, 0, 1, 2, 3, 4, 5, 6, 7, 8], [8, 9])])
def spec_l2View.B6 : List Nat := [0, 1, 0, 4, 0, 28, 60, 124, 255, 511, 1023]
theorem spec_l2View.tab6 : rtab .any (opsOf Try.f84 6) = spec_l2View.T6 := by kernel_rfl
theorem spec_l2View.bits6 : waitsOk spec_l2View.T6.2 spec_l2View.B6 = true := by kernel_rfl
def spec_l2View.T11 : Bool × List (List Nat × List Nat) := (true, [([], []), ([0], [0]), ([], []), ([2], [2]), ([], []), ([3, 4], [3, 4]), ([5], [5]), ([6], [6]), ([1, 7], [1, 7]), ([0, 1, 2, 3, 4, 5, 6, 7, 8], []), ([9, 8, 8, 0, 1, 2, 3, 4, 5, 6, 7, 8], [8, 9])])
def spec_l2View.B11 : List Nat := [0, 1, 0, 4, 0, 28, 60, 124, 255, 511, 1023]
theorem spec_l2View.tab11 : rtab .any (opsOf Try.f84 11) = spec_l2View.T11 := by kernel_rfl
theorem spec_l2View.bits11 : waitsOk spec_l2View.T11.2 spec_l2View.B11 = true := by kernel_rfl
theorem spec_l2View.calls (k : Nat) (ap : Option Addr) (ag : Nat) (J : List (S36)) (aq : Option Addr) (ah : Nat) (z : List (S56)) (Y : Int) (r1 : List (S36)) (r2 : List (S56)) (w : World) (bS : Kd.C k36 w ap J.length J) (bT : J.length ≤ ag) (bU : Kd.C k56 w aq z.length z) (bV : z.length ≤ ah) (h : spec_l2View.f k J z Y = some (r1, r2)) :
  Calls Try.prog 84 #[.agg #[.slice ap J.length ag, .slice aq z.length ah], .int .i64 Y] w fun e w' => ∃ bW bX : Value, e = .returned (.agg #[bW, bX]) ∧ Kd.R k36 36 w' w.heap.size (fun _ => True) bW r1 ∧ Kd.R k56 56 w' w.heap.size (fun _ => True) bX r2 ∧ Below w.heap.size w w' := by
 have hu34 := Try.underlying34
 have hu36 := Try.underlying36
 have hu56 := Try.underlying56
 have bu := am bS
 have db := am bT
 clear bS bT
 have bv := am bU
 have dc := am bV
 clear bU bV
 have HB := am (Below.refl w.heap.size w)
 have H := h; unfold spec_l2View.f at H
 clear h
 obtain ⟨aH, bw⟩ : ∃ y_ : List (S36), y_ = (([] : List (S36))) := ⟨_, rfl⟩
 replace H : (spec_l2View.l0 k Y 0 J z aH (([] : List (S56)))) = some (r1, r2) := by first | (rw [bw]; exact H) | exact H
 have bY := am bw
 clear bw
 obtain ⟨ab, bz⟩ : ∃ y_ : List (S56), y_ = (([] : List (S56))) := ⟨_, rfl⟩
 replace H : (spec_l2View.l0 k Y 0 J z aH ab) = some (r1, r2) := by first | (rw [bz]; exact H) | exact H
 have bZ := am bz
 clear bz
 have H' := am H
 clear H
 go_enter Try.func84, Try.ntmps84
 go_wp2_with (first | ((with_reducible refine gd 2 rfl ?_); refine bx 2 (cs := #[.slice ap J.length ag, .slice aq z.length ah]) (t := 34) ?_; intro ak hg w3 hbox hb; have D := am hbox; have dd := gwb HB hg; replace HB := hs HB hb; clear hb hbox hg) | ((with_reducible refine gd 4 rfl ?_); refine bx 4 (cs := #[.slice none 0 0, .slice none 0 0]) (t := 34) ?_; intro aI hg w4 hbox hb; have M := am hbox; have de := gwb HB hg; replace HB := hs HB hb; have az := nq D hg; have aA := nq' D hg; replace D := bb D hb rfl; clear hb hbox hg) | ((with_reducible refine gd 8 rfl ?_); refine Kd.R_lit k36 _ 36 ?hg (N := 8) ?hd (xs := ([] : List (S36))) (inner := []) (ok := fun _ => True) (okp := fun _ => True) ?hr ?hp (fun _ hk => hk) trivial (Below.refl _ _) (Nat.le_refl _) (by simp) ?_; (case hd => rfl); (case hg => rfl); (case hr => first | (go_simp; done) | (go_simp; rfl)); (case hp => exact (Reps.none _ _)); intro df w5 aJ hb hg_ hnew_; clear hg_ hnew_; (first | rw [← bY.out] at aJ | (simp only [Int.reduceToNat] at aJ; rw [← bY.out] at aJ)); have aC := am (Kd.R_lower aJ (below_size (bs HB.out))); replace D := bb D hb rfl; replace M := bb M hb rfl; replace HB := hs HB hb; clear hb aJ) | ((with_reducible refine gd 9 rfl ?_); refine Kd.R_lit k56 _ 56 ?hg (N := 9) ?hd (xs := ([] : List (S56))) (inner := []) (ok := fun _ => True) (okp := fun _ => True) ?hr ?hp (fun _ hk => hk) trivial (Below.refl _ _) (Nat.le_refl _) (by simp) ?_; (case hd => rfl); (case hg => rfl); (case hr => first | (go_simp; done) | (go_simp; rfl)); (case hp => exact (Reps.none _ _)); intro dg w7 aK hb hg_ hnew_; clear hg_ hnew_; (first | rw [← bZ.out] at aK | (simp only [Int.reduceToNat] at aK; rw [← bZ.out] at aK)); replace aC := rb aC hb; have ba := am (Kd.R_lower aK (below_size (bs HB.out))); replace D := bb D hb rfl; replace M := bb M hb rfl; replace HB := hs HB hb; clear hb aK; obtain ⟨ar, au, co⟩ := Kd.R_slice ba.out; subst co; obtain ⟨b0, b7, cp⟩ := Kd.R_slice aC.out; subst cp) | ((with_reducible refine gd 5 rfl ?_); refine bx 5 (cs := #[.slice none 0 0, .slice none 0 0]) (t := 34) ?_; intro ae hg ct hbox hb; replace aC := rb aC hb; replace ba := rb ba hb; have I := am hbox; have dh := gwb HB hg; replace HB := hs HB hb; have ai := nq D hg; have aj := nq' D hg; replace D := bb D hb rfl; have bc := nq M hg; have be := nq' M hg; replace M := bb M hb rfl; clear hb hbox hg; have di := aj.out; have dj := ai.out; have dk := be.out; have dl := bc.out; obtain ⟨b8, b9⟩ := bc2 (w := ct) I.out; have ce := blk_frozen I.out))
 go_loopg [6] k (fun kq v6 w' => ∃ (L : Int) (Z : List (S36)) (aa : Value), v6 = .int .i64 L ∧ Aside0 (spec_l2View.l0 kq Y L J z Z ab = some (r1, r2)) ∧ Aside0 (kq ≤ k) ∧ Aside0 (Kd.R k36 36 w' w.heap.size (fun _ => True) aa Z) ∧ Aside0 (Kd.R k56 56 w' w.heap.size (fun _ => True) (.slice ar ab.length au) ab) ∧ Aside0 (w'.heap[ak]? = some (.cells #[(.slice ap J.length ag), (.slice aq z.length ah)] 34 (0, 0))) ∧ Aside0 (w'.heap[aI]? = some (.cells #[(.slice none 0 0), (.slice none 0 0)] 34 (0, 0))) ∧ Aside0 (w'.heap[ae]? = some (.cells #[aa, (.slice ar ab.length au)] 34 (0, 0))) ∧ Aside0 (Below w.heap.size w w'))
 case atStart => exact ⟨(0), (aH), (.slice b0 aH.length b7), eqs, H', ⟨Nat.le_refl _⟩, ⟨Kd.R_mono (rt aC.out I.out (by decide)) (fun _ hk => trivial)⟩, ⟨Kd.R_mono (rt ba.out I.out (by decide)) (fun _ hk => trivial)⟩, ⟨bf D.out⟩, ⟨bf M.out⟩, ⟨by (with_reducible repeat (first | refine blk_drewN ?_ _ | refine blk_drew ?_ | refine blk_alloc ?_ _)); refine blk_put (cs := #[.slice b0 aH.length b7, .slice none 0 0]) ?_ 1 _ rfl; (with_reducible repeat (first | refine blk_drewN ?_ _ | refine blk_drew ?_ | refine blk_alloc ?_ _)); refine blk_put (cs := #[.slice none 0 0, .slice none 0 0]) ?_ 0 _ rfl; exact bf I.out⟩, ⟨bs HB.out⟩⟩
 case round =>
  clear H'
  try clear c1
  try clear p2
  try clear c8
  try clear cu
  try clear cv
  try clear b8 b9
  try clear ce
  obtain ⟨L, Z, aa, rfl, HA, al, T, X, D, M, I, HB⟩ := hrel
  cases gk with
  | zero => exact absurd HA.out (by simp [spec_l2View.l0])
  | succ k1 =>
   have H := HA.out
   clear HA
   simp only [spec_l2View.l0] at H
   by_cases av : L < (J.length : Int)
   ·rw [if_pos av] at H
    have cf : decide (L < (J.length : Int)) = true := decide_eq_true av
    clear av
    by_cases aM : 0 ≤ L
    ·rw [if_pos aM] at H
     have cy : decide (0 ≤ L) = true := decide_eq_true aM
     clear aM
     replace H := Option.bind_eq_some_iff.mp H
     obtain ⟨cz, cg, H⟩ := H
     try dsimp -simprocs only at H
     have ch := am cg
     clear cg
     by_cases aN : cz = true
     ·subst aN
      replace H : (if Z.length < 8796093022208 then (spec_l2View.l0 k1 Y (wrap64 (L + 1)) J z (Z ++ [(⟨(rd_T36 J L).f0, (rd_T36 J L).f1⟩ : S36)]) ab) else (none)) = some (r1, r2) := by rw [if_pos rfl] at H; exact H
      by_cases aQ : Z.length < 8796093022208
      ·rw [if_pos aQ] at H
       have cA := am aQ
       clear aQ
       obtain ⟨bA, bB⟩ : ∃ y_ : List (S36), y_ = (Z ++ [(⟨(rd_T36 J L).f0, (rd_T36 J L).f1⟩ : S36)]) := ⟨_, rfl⟩
       replace H : (spec_l2View.l0 k1 Y (wrap64 (L + 1)) J z bA ab) = some (r1, r2) := by first | (rw [bB]; exact H) | exact H
       have cB := am bB
       clear bB
       have H' := am H
       clear H
       have dm := az.out
       have dp := aA.out
       have dq := ai.out
       have dr := aj.out
       obtain ⟨cC, cD⟩ := bc2 (w := wr) D.out
       have cE := blk_frozen D.out
       have an : 0 ≤ (L : Int) := oda
       have ao : L < (J.length : Int) := oda
       obtain ⟨aw, bC, aD, aE⟩ := at_T36 bu.out L an ao
       cases bC
       replace aD := cb HB aD
       replace aE := cb HB aE
       replace an := eq_true an
       replace ao := eq_true ao
       try go_wp2_with (first | ((with_reducible refine gc 115 rfl ?_); refine gl 25 Try.func115 #[.int .i64 ((rd_T36 J L).f0), .int .i64 Y] ?_; (with_reducible refine (spec_l1Under.calls k1 ((rd_T36 J L).f0) Y true _ ch.out).mono ?_); rintro e w' ⟨rfl, ⟨nd, rfl⟩⟩; refine ⟨_, rfl, ?_⟩; (try (rw [drewN_self wr]; generalize hq_ : World.drewN wr _ = wr; have aR : Aside0 (Kd.R k36 36 wr w.heap.size (fun _ => True) aa Z) := ⟨by rw [← hq_]; exact (rl T.out)⟩; have aT : Aside0 (Kd.R k56 56 wr w.heap.size (fun _ => True) (.slice ar ab.length au) ab) := ⟨by rw [← hq_]; exact (rl X.out)⟩; have aU : Aside0 (wr.heap[ak]? = some (.cells #[.slice (some aw) J.length ag, .slice aq z.length ah] 34 (0, 0))) := ⟨by rw [← hq_]; exact (bf D.out)⟩; have aV : Aside0 (wr.heap[aI]? = some (.cells #[.slice none 0 0, .slice none 0 0] 34 (0, 0))) := ⟨by rw [← hq_]; exact (bf M.out)⟩; have aW : Aside0 (wr.heap[ae]? = some (.cells #[aa, .slice ar ab.length au] 34 (0, 0))) := ⟨by rw [← hq_]; exact (bf I.out)⟩; have aX : Aside0 (Below w.heap.size w wr) := ⟨by rw [← hq_]; exact (bs HB.out)⟩; clear T X D M I HB hq_; have T := aR; have X := aT; have D := aU; have M := aV; have I := aW; have HB := aX; clear aR aT aU aV aW aX))))
       replace T := rd_ T
       replace X := rd_ X
       replace D := bd D
       replace M := bd M
       replace I := bd I
       replace HB := hd HB
       have bg : 0 ≤ (L : Int) := oda
       have bh : L < (J.length : Int) := oda
       obtain ⟨cF, cG, aY, aZ⟩ := at_T36 bu.out L bg bh
       have bD := aZ
       have bE := aY
       obtain rfl : aw = cF := (by injection cG)
       replace aY := cb HB aY
       replace aZ := cb HB aZ
       replace bg := eq_true bg
       replace bh := eq_true bh
       refine sta 11 (fun w' => w'.cell? ⟨ae, 0, none⟩ = some (aa) ∧ w'.cell? ⟨ae, 1, none⟩ = some (.slice ar ab.length au) ∧ w'.cell? ⟨ak, 0, none⟩ = some (.slice (some aw) J.length ag) ∧ w'.cell? ⟨ak, 1, none⟩ = some (.slice aq z.length ah) ∧ w'.cell? (aw.add ((L).toNat * 2)) = some (.int .i64 ((rd_T36 J L).f0)) ∧ w'.cell? ⟨(aw.add ((L).toNat * 2)).block, (aw.add ((L).toNat * 2)).off + 1, none⟩ = some (.int .i64 ((rd_T36 J L).f1))) [10] ⟨cx I 0, cx I 1, cx D 0, cx D 1, (cb HB bE), (cb HB bD)⟩ (fun hHeld => ?_); refine with_tabW spec_l2View.tab6 spec_l2View.bits6 (fun HT_ HW_ => ?_)
       generalize wr.drew = dt at T X D M I HB aY aZ hHeld ⊢
       refine pu 0 26 ?_
       refine pu 2 28 ?_
       refine pu 4 30 ?_
       refine tk 1 27 ?_
       refine tk 3 29 ?_
       refine pu 5 31 ?_
       refine tk 6 32 ?_
       refine on 7 33 (fun K hK => ?_)
       refine va ?_
       refine hK.out _ _ ⟨cx I 0, cx I 1, cx D 0, cx D 1, ca (cb HB bE), ca (cb HB bD)⟩ (fun hHeld => ?_)
       clear hK K
       refine nrm 33 ?_
       refine on 8 34 (fun K hK => ?_)
       refine Kd.R_append_step k36 (w0 := w) w.heap.size (by rfl) (.tmp 27) (.tmp 33) 29 36 (.agg #[(.int .i64 0), (.int .i64 0)]) 16 rfl Try.underlying29 info36 rfl (by decide) (by omega) aa Z (⟨(rd_T36 J L).f0, (rd_T36 J L).f1⟩ : S36) [.int .i64 ((rd_T36 J L).f0), .int .i64 ((rd_T36 J L).f1)] (fun _ => True) (fun _ => False) rfl rfl ?aP (fun _ hk => hk.elim) ?aF ?aO ?aB ?aS ?aL ?_
       (case aP => exact k36_mkM _ _ _ (⟨(rd_T36 J L).f0, (rd_T36 J L).f1⟩ : S36))
       (case aB => exact (bs HB.out))
       (case aF => exact (fun _ _ => trivial))
       (case aO => exact (rl T.out))
       (case aS => exact (below_size (bs HB.out)))
       (case aL => have := cA.out; omega)
       intro du cH ho hb hg hat
       rw [← cB.out] at ho
       replace X := am (Kd.R_over' (rl X.out) (Kd.R_typed (rl T.out)) (by decide) hg)
       replace D := gr D T hg
       replace M := gr M T hg
       replace I := gr I T hg
       replace HB := am hb
       have ci := am ho
       clear T
       clear ho hb hg hat
       obtain ⟨cI, cJ, cj⟩ := Kd.R_slice ci.out
       (first | subst cj | (injection cj with a3 bF a4; have bG := a3.symm; have bH := a4.symm; clear a3 bF a4; subst bG; subst bH))
       refine hK.out _ _ ⟨cx I 0, cx I 1, cx D 0, cx D 1, (cb HB bE), (cb HB bD)⟩ (fun hHeld => ?_)
       clear hK K
       refine nrm 34 ?_
       refine pu 9 35 ?_
       refine la0 10 (fun K hK => ?_)
       have dv : cH.cell? ⟨ae, 0, none⟩ = some (aa) := cx I 0
       have dw := blk_frozen I.out 0
       have dx := ai.out
       have dy := bc.out
       have dz := aj.out
       have dA := be.out
       refine sk ?_
       refine hK.out _ _ ?_
       clear hK K
       refine dn ?_
       try go_wp2
       go_roundg k1
       case measure => have := al.out; omega
       case rel => exact ⟨(wrap64 (L + 1)), (bA), (.slice cI bA.length cJ), eqs, H', ⟨by have := al.out; omega⟩, ⟨Kd.R_mono (rt ci.out I.out (by decide)) (fun _ hk => trivial)⟩, ⟨Kd.R_mono (rt X.out I.out (by decide)) (fun _ hk => trivial)⟩, ⟨bf D.out⟩, ⟨bf M.out⟩, ⟨by (with_reducible repeat (first | refine blk_drewN ?_ _ | refine blk_drew ?_ | refine blk_alloc ?_ _)); refine blk_put (cs := #[aa, .slice ar ab.length au]) ?_ 0 _ rfl; exact bf I.out⟩, ⟨bs HB.out⟩⟩
      ·rw [if_neg aQ] at H
       exact absurd H (by simp)
     ·replace aN := Bool.eq_false_iff.mpr aN
      subst aN
      have H1 : (spec_l2View.l0 k1 Y (wrap64 (L + 1)) J z Z ab) = some (r1, r2) := by rw [if_neg (show ¬ (false = true) by decide)] at H; exact H
      clear H
      have H := H1
      clear H1
      have H' := am H
      clear H
      have dB := az.out
      have dC := aA.out
      have dD := ai.out
      have dE := aj.out
      obtain ⟨cK, cL⟩ := bc2 (w := wr) D.out
      have cM := blk_frozen D.out
      have an : 0 ≤ (L : Int) := oda
      have ao : L < (J.length : Int) := oda
      obtain ⟨aw, bC, aD, aE⟩ := at_T36 bu.out L an ao
      cases bC
      replace aD := cb HB aD
      replace aE := cb HB aE
      replace an := eq_true an
      replace ao := eq_true ao
      go_wp2_with (first | ((with_reducible refine gc 115 rfl ?_); refine gl 25 Try.func115 #[.int .i64 ((rd_T36 J L).f0), .int .i64 Y] ?_; (with_reducible refine (spec_l1Under.calls k1 ((rd_T36 J L).f0) Y false _ ch.out).mono ?_); rintro e w' ⟨rfl, ⟨nd, rfl⟩⟩; refine ⟨_, rfl, ?_⟩))
      go_roundg k1
      case measure => have := al.out; omega
      case rel => exact ⟨(wrap64 (L + 1)), (Z), (aa), eqs, H', ⟨by have := al.out; omega⟩, ⟨rl T.out⟩, ⟨rl X.out⟩, ⟨bf D.out⟩, ⟨bf M.out⟩, ⟨bf I.out⟩, ⟨bs HB.out⟩⟩
    ·rw [if_neg aM] at H
     exact absurd H (by simp)
   ·rw [if_neg av] at H
    have cf : decide (L < (J.length : Int)) = false := decide_eq_false av
    clear av
    have H' := am H
    clear H
    have dF := az.out
    have dG := aA.out
    have dH := ai.out
    have dI := aj.out
    obtain ⟨cN, cO⟩ := bc2 (w := wr) D.out
    have cP := blk_frozen D.out
    go_wp2
    go_loopg [7] k1 (fun kq v7 w' => ∃ (s : Int) (ad : List (S56)) (af : Value), v7 = .int .i64 s ∧ Aside0 (spec_l2View.l1 kq Y s J z Z ad = some (r1, r2)) ∧ Aside0 (kq ≤ k1) ∧ Aside0 (Kd.R k36 36 w' w.heap.size (fun _ => True) aa Z) ∧ Aside0 (Kd.R k56 56 w' w.heap.size (fun _ => True) af ad) ∧ Aside0 (w'.heap[ak]? = some (.cells #[(.slice ap J.length ag), (.slice aq z.length ah)] 34 (0, 0))) ∧ Aside0 (w'.heap[aI]? = some (.cells #[(.slice none 0 0), (.slice none 0 0)] 34 (0, 0))) ∧ Aside0 (w'.heap[ae]? = some (.cells #[aa, af] 34 (0, 0))) ∧ Aside0 (Below w.heap.size w w'))
    case atStart => exact ⟨(0), (ab), (.slice ar ab.length au), eqs, H', ⟨Nat.le_refl _⟩, ⟨rl T.out⟩, ⟨rl X.out⟩, ⟨bf D.out⟩, ⟨bf M.out⟩, ⟨bf I.out⟩, ⟨bs HB.out⟩⟩
    case round =>
     clear H'
     try clear c1
     try clear p1
     try clear q1
     try clear dJ
     try clear c2
     try clear p2
     try clear c3
     try clear p6
     try clear c8
     try clear dK
     try clear cu
     try clear dL
     try clear dM
     try clear dN
     try clear cv
     try clear dO
     try clear dP
     try clear dQ
     try clear av
     try clear cf
     try clear aM
     try clear cy
     try clear aN
     try clear aQ
     try clear dR
     try clear dS
     try clear dT
     try clear dU
     try clear dV
     try clear dW
     try clear b8 b9
     try clear cC cD
     try clear cK cL
     try clear cN cO
     try clear ce
     try clear cE
     try clear cM
     try clear cP
     try clear aD
     try clear aE
     try clear aY
     try clear aZ
     try clear an
     try clear bg
     try clear p2
     try clear ao
     try clear bh
     obtain ⟨s, ad, af, rfl, HA, bi, T, X, D, M, I, HB⟩ := hrel
     cases gk with
     | zero => exact absurd HA.out (by simp [spec_l2View.l1])
     | succ k2 =>
      have H := HA.out
      clear HA
      simp only [spec_l2View.l1] at H
      by_cases aG : s < (z.length : Int)
      ·rw [if_pos aG] at H
       have cQ : decide (s < (z.length : Int)) = true := decide_eq_true aG
       clear aG
       by_cases bj : 0 ≤ s
       ·rw [if_pos bj] at H
        have dX : decide (0 ≤ s) = true := decide_eq_true bj
        clear bj
        replace H := Option.bind_eq_some_iff.mp H
        obtain ⟨cR, ck, H⟩ := H
        try dsimp -simprocs only at H
        have cl := am ck
        clear ck
        by_cases bk : cR = true
        ·subst bk
         replace H : (if ad.length < 3518437208883 then (spec_l2View.l1 k2 Y (wrap64 (s + 1)) J z Z (ad ++ [(⟨(rd_T56 z s).f0, (⟨(rd_T56 z s).f1.f0, (rd_T56 z s).f1.f1⟩ : S36), (⟨(rd_T56 z s).f2.f0, (rd_T56 z s).f2.f1⟩ : S36)⟩ : S56)])) else (none)) = some (r1, r2) := by rw [if_pos rfl] at H; exact H
         by_cases bl : ad.length < 3518437208883
         ·rw [if_pos bl] at H
          have cS := am bl
          clear bl
          obtain ⟨bI, bJ⟩ : ∃ y_ : List (S56), y_ = (ad ++ [(⟨(rd_T56 z s).f0, (⟨(rd_T56 z s).f1.f0, (rd_T56 z s).f1.f1⟩ : S36), (⟨(rd_T56 z s).f2.f0, (rd_T56 z s).f2.f1⟩ : S36)⟩ : S56)]) := ⟨_, rfl⟩
          replace H : (spec_l2View.l1 k2 Y (wrap64 (s + 1)) J z Z bI) = some (r1, r2) := by first | (rw [bJ]; exact H) | exact H
          have cT := am bJ
          clear bJ
          have H' := am H
          clear H
          have dY := az.out
          have dZ := aA.out
          have d0 := ai.out
          have d1 := aj.out
          obtain ⟨d2, d3⟩ := bc2 (w := wr) D.out
          have d4 := blk_frozen D.out
          have ax : 0 ≤ (s : Int) := oda
          have ay : s < (z.length : Int) := oda
          obtain ⟨ac, bK, a5, a6, a7, a8, a9⟩ := at_T56 bv.out s ax ay
          cases bK
          replace a5 := cb HB a5
          replace a6 := cb HB a6
          replace a7 := cb HB a7
          replace a8 := cb HB a8
          replace a9 := cb HB a9
          replace ax := eq_true ax
          replace ay := eq_true ay
          try go_wp2_with (first | ((with_reducible refine gc 115 rfl ?_); refine gl 50 Try.func115 #[.int .i64 ((rd_T56 z s).f0), .int .i64 Y] ?_; (with_reducible refine (spec_l1Under.calls k2 ((rd_T56 z s).f0) Y true _ cl.out).mono ?_); rintro e w' ⟨rfl, ⟨nd, rfl⟩⟩; refine ⟨_, rfl, ?_⟩; (try (rw [drewN_self wr]; generalize hq_ : World.drewN wr _ = wr; have aR : Aside0 (Kd.R k36 36 wr w.heap.size (fun _ => True) aa Z) := ⟨by rw [← hq_]; exact (rl T.out)⟩; have aT : Aside0 (Kd.R k56 56 wr w.heap.size (fun _ => True) af ad) := ⟨by rw [← hq_]; exact (rl X.out)⟩; have aU : Aside0 (wr.heap[ak]? = some (.cells #[.slice ap J.length ag, .slice (some ac) z.length ah] 34 (0, 0))) := ⟨by rw [← hq_]; exact (bf D.out)⟩; have aV : Aside0 (wr.heap[aI]? = some (.cells #[.slice none 0 0, .slice none 0 0] 34 (0, 0))) := ⟨by rw [← hq_]; exact (bf M.out)⟩; have aW : Aside0 (wr.heap[ae]? = some (.cells #[aa, af] 34 (0, 0))) := ⟨by rw [← hq_]; exact (bf I.out)⟩; have aX : Aside0 (Below w.heap.size w wr) := ⟨by rw [← hq_]; exact (bs HB.out)⟩; clear T X D M I HB hq_; have T := aR; have X := aT; have D := aU; have M := aV; have I := aW; have HB := aX; clear aR aT aU aV aW aX))))
          replace T := rd_ T
          replace X := rd_ X
          replace D := bd D
          replace M := bd M
          replace I := bd I
          replace HB := hd HB
          have bL : 0 ≤ (s : Int) := oda
          have bM : s < (z.length : Int) := oda
          obtain ⟨cU, cV, bm, bn, bo, br, bt⟩ := at_T56 bv.out s bL bM
          have bN := bt
          have bO := br
          have bP := bo
          have bQ := bn
          have bR := bm
          obtain rfl : ac = cU := (by injection cV)
          replace bm := cb HB bm
          replace bn := cb HB bn
          replace bo := cb HB bo
          replace br := cb HB br
          replace bt := cb HB bt
          replace bL := eq_true bL
          replace bM := eq_true bM
          refine sta 11 (fun w' => w'.cell? ⟨ae, 0, none⟩ = some (aa) ∧ w'.cell? ⟨ae, 1, none⟩ = some (af) ∧ w'.cell? ⟨ak, 0, none⟩ = some (.slice ap J.length ag) ∧ w'.cell? ⟨ak, 1, none⟩ = some (.slice (some ac) z.length ah) ∧ w'.cell? (ac.add ((s).toNat * 5)) = some (.int .i64 ((rd_T56 z s).f0)) ∧ w'.cell? ⟨(ac.add ((s).toNat * 5)).block, (ac.add ((s).toNat * 5)).off + 1, none⟩ = some (.int .i64 ((rd_T56 z s).f1.f0)) ∧ w'.cell? ⟨(ac.add ((s).toNat * 5)).block, (ac.add ((s).toNat * 5)).off + 2, none⟩ = some (.int .i64 ((rd_T56 z s).f1.f1)) ∧ w'.cell? ⟨(ac.add ((s).toNat * 5)).block, (ac.add ((s).toNat * 5)).off + 3, none⟩ = some (.int .i64 ((rd_T56 z s).f2.f0)) ∧ w'.cell? ⟨(ac.add ((s).toNat * 5)).block, (ac.add ((s).toNat * 5)).off + 4, none⟩ = some (.int .i64 ((rd_T56 z s).f2.f1))) [10] ⟨cx I 0, cx I 1, cx D 0, cx D 1, (cb HB bR), (cb HB bQ), (cb HB bP), (cb HB bO), (cb HB bN)⟩ (fun hHeld => ?_); refine with_tabW spec_l2View.tab11 spec_l2View.bits11 (fun HT_ HW_ => ?_)
          generalize wr.drew = d5 at T X D M I HB bm bn bo br bt hHeld ⊢
          refine pu 0 51 ?_
          refine pu 2 53 ?_
          refine pu 4 55 ?_
          refine tk 1 52 ?_
          refine tk 3 54 ?_
          refine pu 5 56 ?_
          refine tk 6 57 ?_
          refine on 7 58 (fun K hK => ?_)
          refine va ?_
          refine hK.out _ _ ⟨cx I 0, cx I 1, cx D 0, cx D 1, ca (cb HB bR), ca (cb HB bQ), ca (cb HB bP), ca (cb HB bO), ca (cb HB bN)⟩ (fun hHeld => ?_)
          clear hK K
          refine nrm 58 ?_
          refine on 8 59 (fun K hK => ?_)
          refine Kd.R_append_step k56 (w0 := w) w.heap.size (by rfl) (.tmp 52) (.tmp 58) 32 56 (.agg #[(.int .i64 0), (.int .i64 0), (.int .i64 0), (.int .i64 0), (.int .i64 0)]) 40 rfl Try.underlying32 info56 rfl (by decide) (by omega) af ad (⟨(rd_T56 z s).f0, (⟨(rd_T56 z s).f1.f0, (rd_T56 z s).f1.f1⟩ : S36), (⟨(rd_T56 z s).f2.f0, (rd_T56 z s).f2.f1⟩ : S36)⟩ : S56) [.int .i64 ((rd_T56 z s).f0), .int .i64 ((rd_T56 z s).f1.f0), .int .i64 ((rd_T56 z s).f1.f1), .int .i64 ((rd_T56 z s).f2.f0), .int .i64 ((rd_T56 z s).f2.f1)] (fun _ => True) (fun _ => False) rfl rfl ?aP (fun _ hk => hk.elim) ?aF ?aO ?aB ?aS ?aL ?_
          (case aP => exact k56_mkM _ _ _ (⟨(rd_T56 z s).f0, (⟨(rd_T56 z s).f1.f0, (rd_T56 z s).f1.f1⟩ : S36), (⟨(rd_T56 z s).f2.f0, (rd_T56 z s).f2.f1⟩ : S36)⟩ : S56))
          (case aB => exact (bs HB.out))
          (case aF => exact (fun _ _ => trivial))
          (case aO => exact (rl X.out))
          (case aS => exact (below_size (bs HB.out)))
          (case aL => have := cS.out; omega)
          intro d6 cW ho hb hg hat
          rw [← cT.out] at ho
          replace T := am (Kd.R_over' (rl T.out) (Kd.R_typed (rl X.out)) (by decide) hg)
          replace D := gr D X hg
          replace M := gr M X hg
          replace I := gr I X hg
          replace HB := am hb
          have cm := am ho
          clear X
          clear ho hb hg hat
          obtain ⟨cX, cY, cn⟩ := Kd.R_slice cm.out
          (first | subst cn | (injection cn with a3 bF a4; have bG := a3.symm; have bH := a4.symm; clear a3 bF a4; subst bG; subst bH))
          refine hK.out _ _ ⟨cx I 0, cx I 1, cx D 0, cx D 1, (cb HB bR), (cb HB bQ), (cb HB bP), (cb HB bO), (cb HB bN)⟩ (fun hHeld => ?_)
          clear hK K
          refine nrm 59 ?_
          refine pu 9 60 ?_
          refine la0 10 (fun K hK => ?_)
          have d7 : cW.cell? ⟨ae, 1, none⟩ = some (af) := cx I 1
          have d8 := blk_frozen I.out 1
          have d9 := ai.out
          have ea := bc.out
          have eb := aj.out
          have ec := be.out
          refine sk ?_
          refine hK.out _ _ ?_
          clear hK K
          refine dn ?_
          try go_wp2
          go_roundg k2
          case measure => have := al.out; have := bi.out; omega
          case rel => exact ⟨(wrap64 (s + 1)), (bI), (.slice cX bI.length cY), eqs, H', ⟨by have := al.out; have := bi.out; omega⟩, ⟨Kd.R_mono (rt T.out I.out (by decide)) (fun _ hk => trivial)⟩, ⟨Kd.R_mono (rt cm.out I.out (by decide)) (fun _ hk => trivial)⟩, ⟨bf D.out⟩, ⟨bf M.out⟩, ⟨by (with_reducible repeat (first | refine blk_drewN ?_ _ | refine blk_drew ?_ | refine blk_alloc ?_ _)); refine blk_put (cs := #[aa, af]) ?_ 1 _ rfl; exact bf I.out⟩, ⟨bs HB.out⟩⟩
         ·rw [if_neg bl] at H
          exact absurd H (by simp)
        ·replace bk := Bool.eq_false_iff.mpr bk
         subst bk
         have H1 : (spec_l2View.l1 k2 Y (wrap64 (s + 1)) J z Z ad) = some (r1, r2) := by rw [if_neg (show ¬ (false = true) by decide)] at H; exact H
         clear H
         have H := H1
         clear H1
         have H' := am H
         clear H
         have ed := az.out
         have ee := aA.out
         have ef := ai.out
         have eg := aj.out
         obtain ⟨eh, ei⟩ := bc2 (w := wr) D.out
         have ej := blk_frozen D.out
         have ax : 0 ≤ (s : Int) := oda
         have ay : s < (z.length : Int) := oda
         obtain ⟨ac, bK, a5, a6, a7, a8, a9⟩ := at_T56 bv.out s ax ay
         cases bK
         replace a5 := cb HB a5
         replace a6 := cb HB a6
         replace a7 := cb HB a7
         replace a8 := cb HB a8
         replace a9 := cb HB a9
         replace ax := eq_true ax
         replace ay := eq_true ay
         go_wp2_with (first | ((with_reducible refine gc 115 rfl ?_); refine gl 50 Try.func115 #[.int .i64 ((rd_T56 z s).f0), .int .i64 Y] ?_; (with_reducible refine (spec_l1Under.calls k2 ((rd_T56 z s).f0) Y false _ cl.out).mono ?_); rintro e w' ⟨rfl, ⟨nd, rfl⟩⟩; refine ⟨_, rfl, ?_⟩))
         go_roundg k2
         case measure => have := al.out; have := bi.out; omega
         case rel => exact ⟨(wrap64 (s + 1)), (ad), (af), eqs, H', ⟨by have := al.out; have := bi.out; omega⟩, ⟨rl T.out⟩, ⟨rl X.out⟩, ⟨bf D.out⟩, ⟨bf M.out⟩, ⟨bf I.out⟩, ⟨bs HB.out⟩⟩
       ·rw [if_neg bj] at H
        exact absurd H (by simp)
      ·rw [if_neg aG] at H
       have cQ : decide (s < (z.length : Int)) = false := decide_eq_false aG
       clear aG
       simp only [Option.some.injEq, Prod.mk.injEq] at H
       obtain ⟨rfl, rfl⟩ := H
       have ek := az.out
       have el := aA.out
       have em := ai.out
       have en := aj.out
       obtain ⟨eo, ep⟩ := bc2 (w := wr) D.out
       have eq := blk_frozen D.out
       have er := be.out
       have es := bc.out
       obtain ⟨et, eu⟩ := bc2 (w := wr) I.out
       have ev := blk_frozen I.out
       obtain ⟨cZ, c0, c5⟩ := Kd.R_slice T.out
       subst c5
       obtain ⟨ew, ex⟩ := bc2 (w := wr) M.out
       have ey := blk_frozen M.out
       obtain ⟨c7, c9, da⟩ := Kd.R_slice X.out
       subst da
       go_wp2
       refine bodyPost_ret (results_cell_row rfl _ _ aI 34 #[.slice cZ Z.length c0, .slice c7 ad.length c9] (0, 0) _ rfl (bp M.out rfl) Try.underlying34 rfl (by kernel_rfl)) rfl ?_
       exact ⟨_, _, eqr, Kd.R_mono (rt T.out M.out (by decide)) (fun _ hk => trivial), Kd.R_mono (rt X.out M.out (by decide)) (fun _ hk => trivial), bs HB.out⟩

/-! ### spec_GraphView: function 35 -/
def spec_GraphView.f (k : Nat) (s : List (S36)) (z : List (S56)) (D : Int) : Option ((List (S36)) × (List (S56))) := (spec_GraphOk.f k s z).bind fun J => (if J = true then ((spec_LabelOk.f D).bind fun L => (if L = true then ((spec_l2View.f k s z D).bind fun I => (some (I.1, I.2))) else (some (([] : List (S36)), ([] : List (S56)))))) else (some (([] : List (S36)), ([] : List (S56)))))
theorem spec_GraphView.calls (k : Nat) (J : Option Addr) (L : Nat) (D : List (S36)) (M : Option Addr) (O : Nat) (I : List (S56)) (T : Int) (r1 : List (S36)) (r2 : List (S56)) (w : World) (ar : Kd.C k36 w J D.length D) (au : D.length ≤ L) (av : Kd.C k56 w M I.length I) (aw : I.length ≤ O) (h : spec_GraphView.f k D I T = some (r1, r2)) :
  Calls Try.prog 35 #[.agg #[.slice J D.length L, .slice M I.length O], .int .i64 T] w fun e w' => ∃ ax ay : Value, e = .returned (.agg #[ax, ay]) ∧ Kd.R k36 36 w' w.heap.size (fun _ => True) ax r1 ∧ Kd.R k56 56 w' w.heap.size (fun _ => True) ay r2 ∧ Below w.heap.size w w' := by
 have hu34 := Try.underlying34
 have ak := am ar
 have al := am au
 clear ar au
 have an := am av
 have ao := am aw
 clear av aw
 have HB := am (Below.refl w.heap.size w)
 have H := h; unfold spec_GraphView.f at H
 clear h
 replace H := Option.bind_eq_some_iff.mp H
 obtain ⟨aQ, az, H⟩ := H
 try dsimp -simprocs only at H
 have A3 := am az
 clear az
 by_cases c4 : aQ = true
 ·subst c4
  replace H : ((spec_LabelOk.f T).bind fun aq => (if aq = true then ((spec_l2View.f k D I T).bind fun ae => (some (ae.1, ae.2))) else (some (([] : List (S36)), ([] : List (S56)))))) = some (r1, r2) := by rw [if_pos rfl] at H; exact H
  replace H := Option.bind_eq_some_iff.mp H
  obtain ⟨aq, aA, H⟩ := H
  try dsimp -simprocs only at H
  have A5 := am aA
  clear aA
  by_cases c6 : aq = true
  ·subst c6
   replace H : ((spec_l2View.f k D I T).bind fun ae => (some (ae.1, ae.2))) = some (r1, r2) := by rw [if_pos rfl] at H; exact H
   replace H := Option.bind_eq_some_iff.mp H
   obtain ⟨⟨aC, aD⟩, aE, H⟩ := H
   try dsimp -simprocs only at H
   have A7 := am aE
   clear aE
   simp only [Option.some.injEq, Prod.mk.injEq] at H
   obtain ⟨rfl, rfl⟩ := H
   go_enter Try.func35, Try.ntmps35
   go_wp2_with (first | ((with_reducible refine gd 2 rfl ?_); refine bx 2 (cs := #[.slice J D.length L, .slice M I.length O]) (t := 34) ?_; intro ap hg w8 hbox hb; have s := am hbox; have aG := gwb HB hg; replace HB := hs HB hb; clear hb hbox hg) | ((with_reducible refine gd 4 rfl ?_); refine bx 4 (cs := #[.slice none 0 0, .slice none 0 0]) (t := 34) ?_; intro X hg w9 hbox hb; have z := am hbox; have aH := gwb HB hg; replace HB := hs HB hb; have af := nq s hg; have ag := nq' s hg; replace s := bb s hb rfl; clear hb hbox hg; have a5 := af.out; have a6 := ag.out; obtain ⟨a7, a8⟩ := bc2 (w := w9) s.out; have a9 := blk_frozen s.out) | ((with_reducible refine gc 33 rfl ?_); refine gl 6 Try.func33 #[.agg #[.slice J D.length L, .slice M I.length O]] ?_; (with_reducible refine (spec_GraphOk.calls k _ _ D _ _ I true _ ?Y ?Z ?aa ?ab A3.out).mono ?_); (case Y => exact Kd.C_below ak.out (bs HB.out)); (case Z => exact al.out); (case aa => exact Kd.C_below an.out (bs HB.out)); (case ab => exact ao.out); rintro e ac ⟨rfl, hb⟩; refine ⟨_, rfl, ?_⟩; replace s := bb s hb rfl; replace z := bb z hb rfl; replace HB := hs HB hb; (try clear hb)) | (go_at_call 83; (with_reducible refine (spec_LabelOk.calls T true _ A5.out).mono ?_); rintro e w' ⟨rfl, ⟨nd, rfl⟩⟩; (try (rw [drewN_self ac]; generalize hq_ : World.drewN ac _ = ac; have ah : Aside0 (ac.heap[ap]? = some (.cells #[.slice J D.length L, .slice M I.length O] 34 (0, 0))) := ⟨by rw [← hq_]; exact (bf s.out)⟩; have ai : Aside0 (ac.heap[X]? = some (.cells #[.slice none 0 0, .slice none 0 0] 34 (0, 0))) := ⟨by rw [← hq_]; exact (bf z.out)⟩; have aj : Aside0 (Below w.heap.size w ac) := ⟨by rw [← hq_]; exact (bs HB.out)⟩; clear s z HB hq_; have s := ah; have z := ai; have HB := aj; clear ah ai aj)); obtain ⟨ba, bc⟩ := bc2 (w := ac) s.out; have be := blk_frozen s.out) | ((with_reducible refine gc 84 rfl ?_); refine gl 16 Try.func84 #[.agg #[.slice J D.length L, .slice M I.length O], .int .i64 T] ?_; (with_reducible refine (spec_l2View.calls k _ _ D _ _ I T aC aD _ ?Y ?Z ?aa ?ab A7.out).mono ?_); (case Y => exact Kd.C_below ak.out (bs HB.out)); (case Z => exact al.out); (case aa => exact Kd.C_below an.out (bs HB.out)); (case ab => exact ao.out); rintro e aR ⟨bg, bh, rfl, aI, aJ, hb⟩; refine ⟨_, rfl, ?_⟩; have aK := am (Kd.R_lower aI (below_size (bs HB.out))); have aM := am (Kd.R_lower aJ (below_size (bs HB.out))); replace s := bb s hb rfl; replace z := bb z hb rfl; replace HB := hs HB hb; (try clear aI aJ hb); obtain ⟨aT, aU, aV⟩ := Kd.R_slice aK.out; subst aV; obtain ⟨bi, bj⟩ := bc2 (w := aR) z.out; have bk := blk_frozen z.out; obtain ⟨aW, aX, aY⟩ := Kd.R_slice aM.out; subst aY))
   refine bodyPost_ret (results_cell_row rfl _ _ X 34 #[.slice aT aC.length aU, .slice aW aD.length aX] (0, 0) _ rfl (bp z.out rfl) Try.underlying34 rfl (by kernel_rfl)) rfl ?_
   exact ⟨_, _, eqr, Kd.R_mono (rt aK.out z.out (by decide)) (fun _ hk => trivial), Kd.R_mono (rt aM.out z.out (by decide)) (fun _ hk => trivial), bs HB.out⟩
  ·replace c6 := Bool.eq_false_iff.mpr c6
   subst c6
   have H1 : (some (([] : List (S36)), ([] : List (S56)))) = some (r1, r2) := by rw [if_neg (show ¬ (false = true) by decide)] at H; exact H
   clear H
   have H := H1
   clear H1
   simp only [Option.some.injEq, Prod.mk.injEq] at H
   obtain ⟨rfl, rfl⟩ := H
   go_enter Try.func35, Try.ntmps35
   go_wp2_with (first | ((with_reducible refine gd 2 rfl ?_); refine bx 2 (cs := #[.slice J D.length L, .slice M I.length O]) (t := 34) ?_; intro ap hg bl hbox hb; have s := am hbox; have aG := gwb HB hg; replace HB := hs HB hb; clear hb hbox hg) | ((with_reducible refine gd 4 rfl ?_); refine bx 4 (cs := #[.slice none 0 0, .slice none 0 0]) (t := 34) ?_; intro X hg aZ hbox hb; have z := am hbox; have aH := gwb HB hg; replace HB := hs HB hb; have af := nq s hg; have ag := nq' s hg; replace s := bb s hb rfl; clear hb hbox hg; have bm := af.out; have bn := ag.out; obtain ⟨bo, br⟩ := bc2 (w := aZ) s.out; have bt := blk_frozen s.out) | ((with_reducible refine gc 33 rfl ?_); refine gl 6 Try.func33 #[.agg #[.slice J D.length L, .slice M I.length O]] ?_; (with_reducible refine (spec_GraphOk.calls k _ _ D _ _ I true _ ?Y ?Z ?aa ?ab A3.out).mono ?_); (case Y => exact Kd.C_below ak.out (bs HB.out)); (case Z => exact al.out); (case aa => exact Kd.C_below an.out (bs HB.out)); (case ab => exact ao.out); rintro e ad ⟨rfl, hb⟩; refine ⟨_, rfl, ?_⟩; replace s := bb s hb rfl; replace z := bb z hb rfl; replace HB := hs HB hb; (try clear hb)) | (go_at_call 83; (with_reducible refine (spec_LabelOk.calls T false _ A5.out).mono ?_); rintro e w' ⟨rfl, ⟨nd, rfl⟩⟩; (try (rw [drewN_self ad]; generalize hq_ : World.drewN ad _ = ad; have ah : Aside0 (ad.heap[ap]? = some (.cells #[.slice J D.length L, .slice M I.length O] 34 (0, 0))) := ⟨by rw [← hq_]; exact (bf s.out)⟩; have ai : Aside0 (ad.heap[X]? = some (.cells #[.slice none 0 0, .slice none 0 0] 34 (0, 0))) := ⟨by rw [← hq_]; exact (bf z.out)⟩; have aj : Aside0 (Below w.heap.size w ad) := ⟨by rw [← hq_]; exact (bs HB.out)⟩; clear s z HB hq_; have s := ah; have z := ai; have HB := aj; clear ah ai aj)); obtain ⟨bu, bv⟩ := bc2 (w := ad) z.out; have bw := blk_frozen z.out))
   refine bodyPost_ret (results_cell_row rfl _ _ X 34 #[.slice none 0 0, .slice none 0 0] (0, 0) _ rfl (bp z.out rfl) Try.underlying34 rfl (by kernel_rfl)) rfl ?_
   exact ⟨_, _, eqr, by first | exact Kd.R_nil _ _ _ _ _ | exact Kd.N_nil _ _ _ _ _ | exact Kd.V_nil _ _ _ _ _ | exact Kd.Q_nil _ _ _ _ _ | exact Kd.S_nil _ _ _ _ _, by first | exact Kd.R_nil _ _ _ _ _ | exact Kd.N_nil _ _ _ _ _ | exact Kd.V_nil _ _ _ _ _ | exact Kd.Q_nil _ _ _ _ _ | exact Kd.S_nil _ _ _ _ _, bs HB.out⟩
 ·replace c4 := Bool.eq_false_iff.mpr c4
  subst c4
  have H1 : (some (([] : List (S36)), ([] : List (S56)))) = some (r1, r2) := by rw [if_neg (show ¬ (false = true) by decide)] at H; exact H
  clear H
  have H := H1
  clear H1
  simp only [Option.some.injEq, Prod.mk.injEq] at H
  obtain ⟨rfl, rfl⟩ := H
  go_enter Try.func35, Try.ntmps35
  go_wp2_with (first | ((with_reducible refine gd 2 rfl ?_); refine bx 2 (cs := #[.slice J D.length L, .slice M I.length O]) (t := 34) ?_; intro ap hg bz hbox hb; have s := am hbox; have aG := gwb HB hg; replace HB := hs HB hb; clear hb hbox hg) | ((with_reducible refine gd 4 rfl ?_); refine bx 4 (cs := #[.slice none 0 0, .slice none 0 0]) (t := 34) ?_; intro X hg a3 hbox hb; have z := am hbox; have aH := gwb HB hg; replace HB := hs HB hb; have af := nq s hg; have ag := nq' s hg; replace s := bb s hb rfl; clear hb hbox hg; have bA := af.out; have bB := ag.out; obtain ⟨bC, bD⟩ := bc2 (w := a3) s.out; have bE := blk_frozen s.out) | ((with_reducible refine gc 33 rfl ?_); refine gl 6 Try.func33 #[.agg #[.slice J D.length L, .slice M I.length O]] ?_; (with_reducible refine (spec_GraphOk.calls k _ _ D _ _ I false _ ?Y ?Z ?aa ?ab A3.out).mono ?_); (case Y => exact Kd.C_below ak.out (bs HB.out)); (case Z => exact al.out); (case aa => exact Kd.C_below an.out (bs HB.out)); (case ab => exact ao.out); rintro e a4 ⟨rfl, hb⟩; refine ⟨_, rfl, ?_⟩; replace s := bb s hb rfl; replace z := bb z hb rfl; replace HB := hs HB hb; (try clear hb); obtain ⟨bF, bG⟩ := bc2 (w := a4) z.out; have bH := blk_frozen z.out))
  refine bodyPost_ret (results_cell_row rfl _ _ X 34 #[.slice none 0 0, .slice none 0 0] (0, 0) _ rfl (bp z.out rfl) Try.underlying34 rfl (by kernel_rfl)) rfl ?_
  exact ⟨_, _, eqr, by first | exact Kd.R_nil _ _ _ _ _ | exact Kd.N_nil _ _ _ _ _ | exact Kd.V_nil _ _ _ _ _ | exact Kd.Q_nil _ _ _ _ _ | exact Kd.S_nil _ _ _ _ _, by first | exact Kd.R_nil _ _ _ _ _ | exact Kd.N_nil _ _ _ _ _ | exact Kd.V_nil _ _ _ _ _ | exact Kd.Q_nil _ _ _ _ _ | exact Kd.S_nil _ _ _ _ _, bs HB.out⟩

/-! ### impl_LabelOk: function 46 -/
def impl_LabelOk.f (s : Int) : Option (Bool) := if 0 ≤ s then (some (decide (s ≤ 7))) else (some false)
theorem impl_LabelOk.calls (z : Int) (r : Bool) (w : World) (h : impl_LabelOk.f z = some r) :
  Calls Try.prog 46 #[.int .i64 z] w fun e w' => e = .returned (.bool r) ∧ Drawn0 w w' := by
 have H := h; unfold impl_LabelOk.f at H
 clear h
 by_cases s : 0 ≤ z
 ·rw [if_pos s] at H
  have D : decide (0 ≤ z) = true := decide_eq_true s
  clear s
  obtain rfl := Option.some.inj H
  go_enter Try.func46, Try.ntmps46
  go_wp2
  go_ret
  exact ⟨eqs, drs⟩
 ·rw [if_neg s] at H
  have D : decide (0 ≤ z) = false := decide_eq_false s
  clear s
  obtain rfl := Option.some.inj H
  go_enter Try.func46, Try.ntmps46
  go_wp2
  go_ret
  exact ⟨eqs, drs⟩

/-! ### impl_letters_under: function 95 -/
def impl_letters_under.f (s : Int) (z : Int) : Option (Bool) := some ((Go.bits .andNot .u8 s z) == 0)
theorem impl_letters_under.calls (s : Int) (z : Int) (r : Bool) (w : World) (h : impl_letters_under.f s z = some r) :
  Calls Try.prog 95 #[.int .u8 s, .int .u8 z] w fun e w' => e = .returned (.bool r) ∧ Drawn0 w w' := by
 have H := h; unfold impl_letters_under.f at H
 clear h
 obtain rfl := Option.some.inj H
 go_enter Try.func95, Try.ntmps95
 go_wp2
 go_ret
 exact ⟨eqs, drs⟩

/-! ### impl_LabelUnder: function 47 -/
def impl_LabelUnder.f (s : Int) (z : Int) : Option (Bool) := (impl_LabelOk.f s).bind fun D => (if D = true then ((impl_LabelOk.f z).bind fun I => (if I = true then ((impl_letters_under.f ((s) % 256) ((z) % 256)).bind fun J => (some J)) else (some false))) else (some false))
theorem impl_LabelUnder.calls (s : Int) (z : Int) (r : Bool) (w : World) (h : impl_LabelUnder.f s z = some r) :
  Calls Try.prog 47 #[.int .i64 s, .int .i64 z] w fun e w' => e = .returned (.bool r) ∧ Drawn0 w w' := by
 have H := h; unfold impl_LabelUnder.f at H
 clear h
 replace H := Option.bind_eq_some_iff.mp H
 obtain ⟨aa, T, H⟩ := H
 try dsimp -simprocs only at H
 have M := am T
 clear T
 by_cases J : aa = true
 ·subst J
  replace H : ((impl_LabelOk.f z).bind fun O => (if O = true then ((impl_letters_under.f ((s) % 256) ((z) % 256)).bind fun D => (some D)) else (some false))) = some r := by rw [if_pos rfl] at H; exact H
  replace H := Option.bind_eq_some_iff.mp H
  obtain ⟨O, X, H⟩ := H
  try dsimp -simprocs only at H
  have Y := am X
  clear X
  by_cases L : O = true
  ·subst L
   replace H : ((impl_letters_under.f ((s) % 256) ((z) % 256)).bind fun D => (some D)) = some r := by rw [if_pos rfl] at H; exact H
   replace H := Option.bind_eq_some_iff.mp H
   obtain ⟨D, Z, H⟩ := H
   try dsimp -simprocs only at H
   have A7 := am Z
   clear Z
   obtain rfl := Option.some.inj H
   go_enter Try.func47, Try.ntmps47
   go_wp2_with (first | ((with_reducible refine gc 46 rfl ?_); refine gl 6 Try.func46 #[.int .i64 s] ?_; (with_reducible refine (impl_LabelOk.calls s true _ M.out).mono ?_); rintro e w' ⟨rfl, ⟨nd, rfl⟩⟩; refine ⟨_, rfl, ?_⟩) | (go_at_call 46; (with_reducible refine (impl_LabelOk.calls z true _ Y.out).mono ?_); rintro e w' ⟨rfl, ⟨nd, rfl⟩⟩) | (go_at_call 95; (with_reducible refine (impl_letters_under.calls ((s) % 256) ((z) % 256) D _ A7.out).mono ?_); rintro e w' ⟨rfl, ⟨nd, rfl⟩⟩))
   go_ret
   exact ⟨eqs, drs⟩
  ·replace L := Bool.eq_false_iff.mpr L
   subst L
   have H1 : (some false) = some r := by rw [if_neg (show ¬ (false = true) by decide)] at H; exact H
   clear H
   have H := H1
   clear H1
   obtain rfl := Option.some.inj H
   go_enter Try.func47, Try.ntmps47
   go_wp2_with (first | ((with_reducible refine gc 46 rfl ?_); refine gl 6 Try.func46 #[.int .i64 s] ?_; (with_reducible refine (impl_LabelOk.calls s true _ M.out).mono ?_); rintro e w' ⟨rfl, ⟨nd, rfl⟩⟩; refine ⟨_, rfl, ?_⟩) | (go_at_call 46; (with_reducible refine (impl_LabelOk.calls z false _ Y.out).mono ?_); rintro e w' ⟨rfl, ⟨nd, rfl⟩⟩))
   go_ret
   exact ⟨eqs, drs⟩
 ·replace J := Bool.eq_false_iff.mpr J
  subst J
  have H1 : (some false) = some r := by rw [if_neg (show ¬ (false = true) by decide)] at H; exact H
  clear H
  have H := H1
  clear H1
  obtain rfl := Option.some.inj H
  go_enter Try.func47, Try.ntmps47
  go_wp2_with (first | ((with_reducible refine gc 46 rfl ?_); refine gl 6 Try.func46 #[.int .i64 s] ?_; (with_reducible refine (impl_LabelOk.calls s false _ M.out).mono ?_); rintro e w' ⟨rfl, ⟨nd, rfl⟩⟩; refine ⟨_, rfl, ?_⟩))
  go_ret
  exact ⟨eqs, drs⟩

/-! ### impl_NodeOk: function 92 -/
def impl_NodeOk.f (z : Int) (s : Int) : Option (Bool) := (impl_LabelOk.f z).bind fun D => (if D = true then (if 0 ≤ s then (some (decide (s ≤ 40))) else (some false)) else (some false))
theorem impl_NodeOk.calls (s : Int) (z : Int) (r : Bool) (w : World) (h : impl_NodeOk.f s z = some r) :
  Calls Try.prog 92 #[.agg #[.int .i64 s, .int .i64 z]] w fun e w' => e = .returned (.bool r) ∧ Below w.heap.size w w' := by
 have hu36 := Try.underlying36
 have HB := am (Below.refl w.heap.size w)
 have H := h; unfold impl_NodeOk.f at H
 clear h
 replace H := Option.bind_eq_some_iff.mp H
 obtain ⟨Y, O, H⟩ := H
 try dsimp -simprocs only at H
 have M := am O
 clear O
 by_cases L : Y = true
 ·subst L
  replace H : (if 0 ≤ z then (some (decide (z ≤ 40))) else (some false)) = some r := by rw [if_pos rfl] at H; exact H
  by_cases J : 0 ≤ z
  ·rw [if_pos J] at H
   have Z : decide (0 ≤ z) = true := decide_eq_true J
   clear J
   obtain rfl := Option.some.inj H
   go_enter Try.func92, Try.ntmps92
   go_wp2_with (first | ((with_reducible refine gd 1 rfl ?_); refine bx 1 (cs := #[.int .i64 s, .int .i64 z]) (t := 36) ?_; intro T hg w5 hbox hb; have I := am hbox; have X := gwb HB hg; replace HB := hs HB hb; clear hb hbox hg; obtain ⟨aa, ab⟩ := bc2 (w := w5) I.out; have ac := blk_frozen I.out) | ((with_reducible refine gc 46 rfl ?_); refine gl 5 Try.func46 #[.int .i64 s] ?_; (with_reducible refine (impl_LabelOk.calls s true _ M.out).mono ?_); rintro e w' ⟨rfl, ⟨nd, rfl⟩⟩; refine ⟨_, rfl, ?_⟩))
   go_ret
   exact ⟨eqr, bs HB.out⟩
  ·rw [if_neg J] at H
   have Z : decide (0 ≤ z) = false := decide_eq_false J
   clear J
   obtain rfl := Option.some.inj H
   go_enter Try.func92, Try.ntmps92
   go_wp2_with (first | ((with_reducible refine gd 1 rfl ?_); refine bx 1 (cs := #[.int .i64 s, .int .i64 z]) (t := 36) ?_; intro T hg w7 hbox hb; have I := am hbox; have X := gwb HB hg; replace HB := hs HB hb; clear hb hbox hg; obtain ⟨ad, ae⟩ := bc2 (w := w7) I.out; have af := blk_frozen I.out) | ((with_reducible refine gc 46 rfl ?_); refine gl 5 Try.func46 #[.int .i64 s] ?_; (with_reducible refine (impl_LabelOk.calls s true _ M.out).mono ?_); rintro e w' ⟨rfl, ⟨nd, rfl⟩⟩; refine ⟨_, rfl, ?_⟩))
   go_ret
   exact ⟨eqr, bs HB.out⟩
 ·replace L := Bool.eq_false_iff.mpr L
  subst L
  have H1 : (some false) = some r := by rw [if_neg (show ¬ (false = true) by decide)] at H; exact H
  clear H
  have H := H1
  clear H1
  obtain rfl := Option.some.inj H
  go_enter Try.func92, Try.ntmps92
  go_wp2_with (first | ((with_reducible refine gd 1 rfl ?_); refine bx 1 (cs := #[.int .i64 s, .int .i64 z]) (t := 36) ?_; intro T hg w9 hbox hb; have I := am hbox; have X := gwb HB hg; replace HB := hs HB hb; clear hb hbox hg; obtain ⟨ag, ah⟩ := bc2 (w := w9) I.out; have ai := blk_frozen I.out) | ((with_reducible refine gc 46 rfl ?_); refine gl 5 Try.func46 #[.int .i64 s] ?_; (with_reducible refine (impl_LabelOk.calls s false _ M.out).mono ?_); rintro e w' ⟨rfl, ⟨nd, rfl⟩⟩; refine ⟨_, rfl, ?_⟩))
  go_ret
  exact ⟨eqr, bs HB.out⟩

/-! ### impl_NodeCode: function 116 -/
def impl_NodeCode.f (s : Int) (z : Int) : Option (Int) := (impl_NodeOk.f s z).bind fun D => (if D = true then (some (wrap64 ((wrap64 (64 * s)) + z))) else (some (-1)))
theorem impl_NodeCode.calls (D : Int) (I : Int) (r : Int) (w : World) (h : impl_NodeCode.f D I = some r) :
  Calls Try.prog 116 #[.agg #[.int .i64 D, .int .i64 I]] w fun e w' => e = .returned (.int .i64 r) ∧ Below w.heap.size w w' := by
 have hu36 := Try.underlying36
 have HB := am (Below.refl w.heap.size w)
 have H := h; unfold impl_NodeCode.f at H
 clear h
 replace H := Option.bind_eq_some_iff.mp H
 obtain ⟨O, L, H⟩ := H
 try dsimp -simprocs only at H
 have M := am L
 clear L
 by_cases J : O = true
 ·subst J
  replace H : (some (wrap64 ((wrap64 (64 * D)) + I))) = some r := by rw [if_pos rfl] at H; exact H
  obtain rfl := Option.some.inj H
  go_enter Try.func116, Try.ntmps116
  go_wp2_with (first | ((with_reducible refine gd 1 rfl ?_); refine bx 1 (cs := #[.int .i64 D, .int .i64 I]) (t := 36) ?_; intro T hg X hbox hb; have s := am hbox; have Y := gwb HB hg; replace HB := hs HB hb; clear hb hbox hg; obtain ⟨aa, ab⟩ := bc2 (w := X) s.out; have ac := blk_frozen s.out) | ((with_reducible refine gc 92 rfl ?_); refine gl 4 Try.func92 #[.agg #[.int .i64 D, .int .i64 I]] ?_; (with_reducible refine (impl_NodeOk.calls D I true _ M.out).mono ?_); rintro e Z ⟨rfl, hb⟩; refine ⟨_, rfl, ?_⟩; replace s := bb s hb rfl; replace HB := hs HB hb; (try clear hb); obtain ⟨ad, ae⟩ := bc2 (w := Z) s.out; have af := blk_frozen s.out))
  go_ret
  exact ⟨eqr, bs HB.out⟩
 ·replace J := Bool.eq_false_iff.mpr J
  subst J
  have H1 : (some (-1)) = some r := by rw [if_neg (show ¬ (false = true) by decide)] at H; exact H
  clear H
  have H := H1
  clear H1
  obtain rfl := Option.some.inj H
  go_enter Try.func116, Try.ntmps116
  go_wp2_with (first | ((with_reducible refine gd 1 rfl ?_); refine bx 1 (cs := #[.int .i64 D, .int .i64 I]) (t := 36) ?_; intro T hg w8 hbox hb; have s := am hbox; have Y := gwb HB hg; replace HB := hs HB hb; clear hb hbox hg; obtain ⟨ag, ah⟩ := bc2 (w := w8) s.out; have ai := blk_frozen s.out) | ((with_reducible refine gc 92 rfl ?_); refine gl 4 Try.func92 #[.agg #[.int .i64 D, .int .i64 I]] ?_; (with_reducible refine (impl_NodeOk.calls D I false _ M.out).mono ?_); rintro e aj ⟨rfl, hb⟩; refine ⟨_, rfl, ?_⟩; replace s := bb s hb rfl; replace HB := hs HB hb; (try clear hb)))
  go_ret
  exact ⟨eqr, bs HB.out⟩

/-! ### impl_EdgeOk: function 93 -/
theorem iIs (a : Int) : impl_LabelOk.f a = some (isL a) := by
  unfold impl_LabelOk.f isL
  by_cases h : 0 ≤ a
  · rw [if_pos h]; simp [h]
  · rw [if_neg h]; simp [h]
theorem iU8 : ∀ a b : Fin 8, impl_LabelUnder.f (a.val : Int) (b.val : Int) = some (U a.val b.val) := by decide +kernel
theorem iU (a b : Int) : impl_LabelUnder.f a b = some (U a b) := by
  by_cases ha : isL a = true
  · by_cases hb : isL b = true
    · obtain ⟨x, rfl⟩ := fin8 ha
      obtain ⟨y, rfl⟩ := fin8 hb
      exact iU8 x y
    · simp [impl_LabelUnder.f, iIs, U, ha, hb]
  · simp [impl_LabelUnder.f, iIs, U, ha]
theorem iN (a b : Int) : impl_NodeOk.f a b = some (nOk a b) := by
  unfold impl_NodeOk.f
  rw [iIs]
  cases h : isL a
  · simp [nOk, h]
  · by_cases hb : 0 ≤ b
    · simp [nOk, h, hb]
    · simp [nOk, h, hb]
theorem iC (a b : Int) : impl_NodeCode.f a b = some (Cd a b) := by
  unfold impl_NodeCode.f Cd
  rw [iN]
  cases h : nOk a b
  · simp
  · have h' := nOk_iff.1 h
    simp only [Option.bind_some, if_true, w64 (x := 64 * a) (by omega), w64 (x := 64 * a + b) (by omega)]
def impl_EdgeOk.f (s : Int) (z : Int) (D : Int) (I : Int) (J : Int) : Option (Bool) := some (EOk s z D I J)
set_option maxHeartbeats 8000000 in
set_option maxRecDepth 100000 in
theorem impl_EdgeOk.calls (I : Int) (s : Int) (J : Int) (z : Int) (L : Int) (r : Bool) (w : World) (h : impl_EdgeOk.f I s J z L = some r) :
    Calls Try.prog 93 #[.agg #[.int .i64 I, .int .i64 s, .int .i64 J, .int .i64 z, .int .i64 L]] w fun e w' => e = .returned (.bool r) ∧ Below w.heap.size w w' := by
  have hu56 := Try.underlying56
  have hu36 := Try.underlying36
  have HB := am (Below.refl w.heap.size w)
  obtain rfl := Option.some.inj h
  clear h
  have F : ∀ (b1 b2 b3 b4 b5 b6 : Bool), isL I = b1 → nOk s J = b2 → nOk z L = b3 → decide (Cd s J < Cd z L) = b4 → U s I = b5 → U z I = b6 →
      Calls Try.prog 93 #[.agg #[.int .i64 I, .int .i64 s, .int .i64 J, .int .i64 z, .int .i64 L]] w fun e w' => e = .returned (.bool (b1 && (b2 && (b3 && (b4 && (b5 && b6)))))) ∧ Below w.heap.size w w' := by
    intro b1 b2 b3 b4 b5 b6 h1 h2 h3 h4 h5 h6
    have T := am ((iIs I).trans (congrArg some h1))
    have X := am ((iN s J).trans (congrArg some h2))
    have Y := am ((iN z L).trans (congrArg some h3))
    have Z := am ((iU s I).trans (congrArg some h5))
    have A6 := am ((iU z I).trans (congrArg some h6))
    clear h1 h2 h3 h5 h6
    go_enter Try.func93, Try.ntmps93
    go_wp2_with (first | ((with_reducible refine gate_dst (N := 1) rfl ?_); refine box_event ?hg (N := 1) ?hd (cs := #[.int .i64 I, .int .i64 s, .int .i64 J, .int .i64 z, .int .i64 L]) (t := 56) ?hr ?_; (case hd => rfl); (case hg => rfl); (case hr => first | (go_simp; done) | (go_simp; rfl)); intro gb hg M hbox hb; have O := am (below_step HB.out hb); clear HB; have HB := O; clear O hg hb))
    have aa : ∀ p : Bel M, p.v.cell? ⟨gb, 0, none⟩ = some (.int .i64 I) := fun p => cell_bel ((blk_cell hbox 0).trans rfl) p
    have ab : ∀ p : Bel M, p.v.cell? ⟨gb, 1, none⟩ = some (.int .i64 s) := fun p => cell_bel ((blk_cell hbox 1).trans rfl) p
    have ac : ∀ p : Bel M, p.v.cell? ⟨gb, 2, none⟩ = some (.int .i64 J) := fun p => cell_bel ((blk_cell hbox 2).trans rfl) p
    have ad : ∀ p : Bel M, p.v.cell? ⟨gb, 3, none⟩ = some (.int .i64 z) := fun p => cell_bel ((blk_cell hbox 3).trans rfl) p
    have ae : ∀ p : Bel M, p.v.cell? ⟨gb, 4, none⟩ = some (.int .i64 L) := fun p => cell_bel ((blk_cell hbox 4).trans rfl) p
    clear hbox
    refine wp_region_bel0 (by kernel_rfl) (by kernel_rfl) ?_
    rcases path6 b1 b2 b3 b4 b5 b6 with rfl | ⟨rfl, rfl⟩ | ⟨rfl, rfl, rfl⟩ | ⟨rfl, rfl, rfl, rfl⟩ | ⟨rfl, rfl, rfl, rfl, rfl⟩ | ⟨rfl, rfl, rfl, rfl, rfl, rfl⟩ | ⟨rfl, rfl, rfl, rfl, rfl, rfl⟩ <;>
    (repeat (go_big_quiet_step (first
        | with_reducible exact calls_bel0 (impl_LabelOk.calls _ _ _ T.out)
        | with_reducible exact calls_bel (impl_NodeOk.calls s J _ _ X.out)
        | with_reducible exact calls_bel (impl_NodeOk.calls z L _ _ Y.out)
        | with_reducible exact calls_bel (impl_NodeCode.calls s J _ _ (iC s J))
        | with_reducible exact calls_bel (impl_NodeCode.calls z L _ _ (iC z L))
        | with_reducible exact calls_bel0 (impl_LabelUnder.calls s I _ _ Z.out)
        | with_reducible exact calls_bel0 (impl_LabelUnder.calls z I _ _ A6.out)))
     refine wpQuiet_nil ?_
     intro _ hw'
     obtain ⟨⟨wq, hbq⟩, hw''⟩ := hw'
     subst hw''
     go_wp2
     go_ret
     exact ⟨by first | rfl | (simp; done) | (simp [*]; done), below_step HB.out hbq⟩)
  have G := F _ _ _ _ _ _ rfl rfl rfl rfl rfl rfl
  have e : EOk I s J z L = (isL I && (nOk s J && (nOk z L && (decide (Cd s J < Cd z L) && (U s I && U z I))))) := by
    unfold EOk Cd
    cases h1 : nOk s J
    · simp
    · cases h2 : nOk z L
      · simp
      · simp
  rw [e]
  exact G

end Go.Proofs.Ytohmemckdogljaa.QFnGraphUnion
