/- Contracts of the Go functions that this law reaches: each does what its plain Lean function says. No condition. -/
import Derived.Test.YtohmemckdogljaaQFnExactWalkPathx0
import Derived.Test.YtohmemckdogljaaQFnExactWalkPathx9
namespace Go.Proofs.Ytohmemckdogljaa.QFnExactWalkPath
open Go.RowKit Go.Proofs.YtohmemckdogljaaW.PrintWords Go.Proofs.YtohmemckdogljaaW.PrintLast Go.Proofs.YtohmemckdogljaaW.PrintMore Go.Proofs.Ytohmemckdogljaa.Bl
attribute [local go_sem] max2_int min2_int max_two min_two max_three min_three max_four min_four   -- for this text's walks alone
set_option linter.unusedVariables false
set_option linter.unusedSimpArgs false
set_option maxHeartbeats 8000000
set_option maxRecDepth 100000

/-! ### impl_edgeOrder: function 117 -/
def impl_edgeOrder.f (k : Nat) (s : Int) (z : Int) (D : Int) (G : Int) (I : Int) (J : Int) (L : Int) (O : Int) (T : Int) (X : Int) : Option (Int) := (cmp_Compare_int.f s J).bind fun Y => ((impl_nodeOrder.f z D L O).bind fun Z => ((impl_nodeOrder.f G I T X).bind fun aa => ((cmp_Or_int.f k (([Y, Z, aa] : List Int))).bind fun ab => (some ab))))
def impl_edgeOrder.T1 : Bool × List (List Nat × List Nat) := (true, [([], []), ([0], [0]), ([], []), ([2], [2]), ([1, 3], [1, 3]), ([], []), ([5], [5]), ([], []), ([7], [7]), ([6, 8, 4], [6, 8]), ([], []), ([10], [10]), ([], []), ([12], [12]), ([11, 13, 9], [11, 13]), ([4, 9, 14], [4, 9, 14]), ([15, 14], [15]), ([16, 16, 0, 1, 2, 3, 4, 5, 6, 7, 8, 9, 10, 11, 12, 13, 14, 15, 16], [16])])
def impl_edgeOrder.B1 : List Nat := [0, 1, 0, 4, 15, 0, 32, 0, 128, 511, 0, 1024, 0, 4096, 16383, 32767, 65535, 131071]
theorem impl_edgeOrder.tab1 : rtab .any (opsOf Try.f117 1) = impl_edgeOrder.T1 := by kernel_rfl
theorem impl_edgeOrder.bits1 : waitsOk impl_edgeOrder.T1.2 impl_edgeOrder.B1 = true := by kernel_rfl
theorem impl_edgeOrder.calls (k : Nat) (G : Int) (I : Int) (J : Int) (L : Int) (O : Int) (T : Int) (X : Int) (Y : Int) (Z : Int) (aa : Int) (r : Int) (w : World) (h : impl_edgeOrder.f k G I J L O T X Y Z aa = some r) :
  Calls Try.prog 117 #[.agg #[.int .i64 G, .int .i64 I, .int .i64 J, .int .i64 L, .int .i64 O], .agg #[.int .i64 T, .int .i64 X, .int .i64 Y, .int .i64 Z, .int .i64 aa]] w fun e w' => e = .returned (.int .i64 r) ∧ Below w.heap.size w w' := by
 have hu56 := Try.underlying56
 have hu36 := Try.underlying36
 have HB := am (Below.refl w.heap.size w)
 have H := h; unfold impl_edgeOrder.f at H
 clear h
 replace H := Option.bind_eq_some_iff.mp H
 obtain ⟨ab, an, H⟩ := H
 try dsimp -simprocs only at H
 have A3 := am an
 clear an
 replace H := Option.bind_eq_some_iff.mp H
 obtain ⟨ac, ao, H⟩ := H
 try dsimp -simprocs only at H
 have A4 := am ao
 clear ao
 replace H := Option.bind_eq_some_iff.mp H
 obtain ⟨ae, ap, H⟩ := H
 try dsimp -simprocs only at H
 have A5 := am ap
 clear ap
 obtain ⟨ai, aj⟩ : ∃ y_ : List Int, y_ = (([ab, ac, ae] : List Int)) := ⟨_, rfl⟩
 replace H : ((cmp_Or_int.f k ai).bind fun ak => (some ak)) = some r := by first | (rw [aj]; exact H) | exact H
 have aq := am aj
 clear aj
 replace H := Option.bind_eq_some_iff.mp H
 obtain ⟨ak, ar, H⟩ := H
 try dsimp -simprocs only at H
 have A6 := am ar
 clear ar
 obtain rfl := Option.some.inj H
 go_enter Try.func117, Try.ntmps117
 try go_wp2_with (first | ((with_reducible refine gd 2 rfl ?_); refine bx 2 (cs := #[.int .i64 G, .int .i64 I, .int .i64 J, .int .i64 L, .int .i64 O]) (t := 56) ?_; intro af hg w7 hbox hb; have z := am hbox; have aE := gwb HB hg; replace HB := hs HB hb; clear hb hbox hg) | ((with_reducible refine gd 3 rfl ?_); refine bx 3 (cs := #[.int .i64 T, .int .i64 X, .int .i64 Y, .int .i64 Z, .int .i64 aa]) (t := 56) ?_; intro ag hg w8 hbox hb; have D := am hbox; have aF := gwb HB hg; replace HB := hs HB hb; have aG := nq z hg; have aH := nq' z hg; replace z := bb z hb rfl; clear hb hbox hg))
 replace z := bd z
 replace D := bd D
 replace HB := hd HB
 refine sta 18 (fun w' => w'.cell? ⟨af, 0, none⟩ = some (.int .i64 G) ∧ w'.cell? ⟨af, 1, none⟩ = some (.int .i64 I) ∧ w'.cell? ⟨af, 2, none⟩ = some (.int .i64 J) ∧ w'.cell? ⟨af, 3, none⟩ = some (.int .i64 L) ∧ w'.cell? ⟨af, 4, none⟩ = some (.int .i64 O) ∧ w'.cell? ⟨ag, 0, none⟩ = some (.int .i64 T) ∧ w'.cell? ⟨ag, 1, none⟩ = some (.int .i64 X) ∧ w'.cell? ⟨ag, 2, none⟩ = some (.int .i64 Y) ∧ w'.cell? ⟨ag, 3, none⟩ = some (.int .i64 Z) ∧ w'.cell? ⟨ag, 4, none⟩ = some (.int .i64 aa)) [] ⟨cx z 0, cx z 1, cx z 2, cx z 3, cx z 4, cx D 0, cx D 1, cx D 2, cx D 3, cx D 4⟩ (fun hHeld => ?_); refine with_tabW impl_edgeOrder.tab1 impl_edgeOrder.bits1 (fun HT_ HW_ => ?_)
 generalize w8.drew = w9 at z D HB hHeld ⊢
 refine pu 0 5 ?_
 refine pu 2 7 ?_
 refine pu 5 10 ?_
 refine pu 7 12 ?_
 refine pu 10 15 ?_
 refine pu 12 17 ?_
 refine tk 1 6 ?_
 refine tk 3 8 ?_
 refine tk 6 11 ?_
 refine tk 8 13 ?_
 refine tk 11 16 ?_
 refine tk 13 18 ?_
 refine on 4 9 (fun K hK => ?_)
 refine gs Try.func138 #[.int .i64 G, .int .i64 T] ?_
 with_reducible refine (cmp_Compare_int.calls G T ab _ A3.out).mono ?_
 rintro e w' ⟨rfl, ⟨nd, rfl⟩⟩
 refine ⟨_, rfl, ?_⟩
 refine hK.out _ _ ⟨cx z 0, cx z 1, cx z 2, cx z 3, cx z 4, cx D 0, cx D 1, cx D 2, cx D 3, cx D 4⟩ (fun hHeld => ?_)
 clear hK K
 refine nrm 9 ?_
 refine on 9 14 (fun K hK => ?_)
 refine gs Try.func105 #[.agg #[.int .i64 I, .int .i64 J], .agg #[.int .i64 X, .int .i64 Y]] ?_
 with_reducible refine (impl_nodeOrder.calls I J X Y ac _ A4.out).mono ?_
 rintro e aI ⟨rfl, hb⟩
 refine ⟨_, rfl, ?_⟩
 replace z := bb z hb rfl
 replace D := bb D hb rfl
 replace HB := hs HB hb
 (try clear hb)
 (try clear hb2)
 (try clear hk)
 (try clear hi)
 refine hK.out _ _ ⟨cx z 0, cx z 1, cx z 2, cx z 3, cx z 4, cx D 0, cx D 1, cx D 2, cx D 3, cx D 4⟩ (fun hHeld => ?_)
 clear hK K
 refine nrm 14 ?_
 refine on 14 19 (fun K hK => ?_)
 refine gs Try.func105 #[.agg #[.int .i64 L, .int .i64 O], .agg #[.int .i64 Z, .int .i64 aa]] ?_
 with_reducible refine (impl_nodeOrder.calls L O Z aa ae _ A5.out).mono ?_
 rintro e aJ ⟨rfl, hb⟩
 refine ⟨_, rfl, ?_⟩
 replace z := bb z hb rfl
 replace D := bb D hb rfl
 replace HB := hs HB hb
 (try clear hb)
 (try clear hb2)
 (try clear hk)
 (try clear hi)
 refine hK.out _ _ ⟨cx z 0, cx z 1, cx z 2, cx z 3, cx z 4, cx D 0, cx D 1, cx D 2, cx D 3, cx D 4⟩ (fun hHeld => ?_)
 clear hK K
 refine nrm 19 ?_
 refine on 15 20 (fun K hK => ?_)
 refine Kd.R_lit_step (Kd.int .i64) _ 3 ?hg (N := 20) ?hd (xs := ([ab, ac, ae] : List Int)) (inner := [.int .i64 ab, .int .i64 ac, .int .i64 ae]) (ok := fun _ => True) (okp := fun _ => True) ?hr ?hp (fun _ hk => hk) trivial (Below.refl _ _) (Nat.le_refl _) (by simp) ?_; (case hd => rfl); (case hg => rfl); (case hr => first | (go_simp; done) | (go_simp; rfl)); (case hp => exact (Reps.one (show Kd.M (Kd.int .i64) _ _ _ ab [.int .i64 ab] from rfl) (Reps.one (show Kd.M (Kd.int .i64) _ _ _ ac [.int .i64 ac] from rfl) (Reps.one (show Kd.M (Kd.int .i64) _ _ _ ae [.int .i64 ae] from rfl) (Reps.none _ _)))))
 intro aK aL ah hb hg_ hnew_
 clear hg_ hnew_
 (first | rw [← aq.out] at ah | (simp only [Int.reduceToNat] at ah; rw [← aq.out] at ah))
 have al := am (Kd.R_lower ah (below_size (bs HB.out)))
 replace z := bb z hb rfl
 replace D := bb D hb rfl
 replace HB := hs HB hb
 clear hb ah
 obtain ⟨ax, ay, au⟩ := Kd.R_slice al.out
 (first | subst au | (injection au with av az aw; have aA := av.symm; have aB := aw.symm; clear av az aw; subst aA; subst aB))
 refine hK.out _ _ ⟨cx z 0, cx z 1, cx z 2, cx z 3, cx z 4, cx D 0, cx D 1, cx D 2, cx D 3, cx D 4⟩ (fun hHeld => ?_)
 clear hK K
 refine nrm 20 ?_
 refine on 16 21 (fun K hK => ?_)
 refine gs Try.func142 #[.slice ax ai.length ay] ?_
 with_reducible refine (cmp_Or_int.calls k _ _ ai ak _ ?aC ?aD A6.out).mono ?_
 (case aC => exact cr al)
 (case aD => exact cc al)
 rintro e w' ⟨rfl, ⟨nd, rfl⟩⟩
 refine ⟨_, rfl, ?_⟩
 refine hK.out _ _ ⟨cx z 0, cx z 1, cx z 2, cx z 3, cx z 4, cx D 0, cx D 1, cx D 2, cx D 3, cx D 4⟩ (fun hHeld => ?_)
 clear hK K
 refine nrm 21 ?_
 refine pu 17 4 ?_
 refine dn ?_
 try go_wp2
 go_ret
 exact ⟨eqr, bs HB.out⟩

/-! ### impl_Node_110: function 110 -/
/-- The sign of a comparison of two nodes. -/
def oN (a b c d : Int) : Int := if Cd a b < Cd c d then -1 else if Cd a b > Cd c d then 1 else 0
theorem iO (a b c d : Int) : impl_nodeOrder.f a b c d = some (oN a b c d) := by
  unfold impl_nodeOrder.f cmp_Compare_int.f cmp_isNaN_int.f oN
  simp only [iC, Option.bind_some, bne_self_eq_false, Bool.false_eq_true, if_false]
  split
  · rfl
  · split <;> rfl
theorem half_u {x y : Int} (h : 0 ≤ x ∧ 0 ≤ y ∧ x ≤ 9223372036854775807 ∧ y ≤ 9223372036854775807) : wrap64 (IntKind.u64.wrap (wrap64 (x + y)) / 2) = (x + y) / 2 := by
  have e : IntKind.u64.wrap (wrap64 (x + y)) = x + y := by
    simp only [IntKind.wrap, IntKind.signed, IntKind.bits, wrap64]
    simp
    omega
  rw [e]; unfold wrap64; omega
def impl_bsf.l0 : Nat → List S36 → Int → Int → Int → Int → Option (Int × Bool)
  | 0, _, _, _, _, _ => none
  | k + 1, xs, a, b, i, j => if i < j then (if oN (rd_T36 xs ((i + j) / 2)).f0 (rd_T36 xs ((i + j) / 2)).f1 a b < 0 then impl_bsf.l0 k xs a b ((i + j) / 2 + 1) j else impl_bsf.l0 k xs a b i ((i + j) / 2)) else
    some (i, if i < (xs.length : Int) then oN (rd_T36 xs i).f0 (rd_T36 xs i).f1 a b == 0 else false)
def impl_bsf.f (k : Nat) (xs : List S36) (a b : Int) : Option (Int × Bool) := impl_bsf.l0 k xs a b 0 xs.length
set_option maxHeartbeats 8000000 in
set_option maxRecDepth 100000 in
theorem impl_bsf.calls (k : Nat) (A0 : Option Addr) (c0 : Nat) (l0 : List S36) (D G : Int) (r1 : Int) (r2 : Bool) (w : World) (ac : Kd.C k36 w A0 l0.length l0) (ak : l0.length ≤ c0) (h : impl_bsf.f k l0 D G = some (r1, r2)) :
    Calls Try.prog 110 #[.slice A0 l0.length c0, .agg #[.int .i64 D, .int .i64 G], .func (.func 105) #[] #[]] w fun e w' => e = .returned (.tuple #[.int .i64 r1, .bool r2]) ∧ Below w.heap.size w w' := by
  have hu36 := Try.underlying36
  have al := am ac
  have av := am ak
  have an := am ac.2.1
  clear ac ak
  have HB := am (Below.refl w.heap.size w)
  have H' := am (show impl_bsf.l0 k l0 D G 0 l0.length = some (r1, r2) from h)
  clear h
  go_enter Try.func110, Try.ntmps110
  go_wp2_with (first | ((with_reducible refine gate_dst (N := 4) rfl ?_); refine box_event ?hg (N := 4) ?hd (cs := #[.int .i64 D, .int .i64 G]) (t := 36) ?hr ?_; (case hd => rfl); (case hg => rfl); (case hr => first | (go_simp; done) | (go_simp; rfl)); intro gn hg w3 hbox hb; have T := am (below_step HB.out hb); have I := am hbox; have ao := am ((by rw [hg]; exact (below_size (by repeat (first | (with_reducible first | exact HB.out | apply below_alloc | apply pw_below_drewN | apply below_drew1) | exact HB.out))) : w.heap.size ≤ gn)); clear HB; have HB := T; have BN := I; have GN := ao; clear T I ao hg hb hbox))
  go_loopg [9, 10] k (fun kq v9 ap w' => ∃ (s J : Int), v9 = .int .i64 s ∧ ap = .int .i64 J ∧ Aside0 (impl_bsf.l0 kq l0 D G s J = some (r1, r2)) ∧ Aside0 (0 ≤ s ∧ s ≤ J ∧ J ≤ l0.length) ∧ Aside0 (kq ≤ k) ∧ Aside0 (w'.heap[gn]? = some (.cells #[.int .i64 D, .int .i64 G] 36 (0, 0))) ∧ Aside0 (Below w.heap.size w w'))
  case atStart => exact ⟨0, l0.length, (by first | rfl | (simp; done) | (simp [*]; done)), (by first | rfl | (simp; done) | (simp [*]; done)), H', ⟨by omega⟩, ⟨Nat.le_refl _⟩, ⟨by (with_reducible repeat (first | refine blk_drewN ?_ _ | refine blk_drew ?_ | refine blk_alloc ?_ _)); exact BN.out⟩, ⟨by repeat (first | (with_reducible first | exact HB.out | apply below_alloc | apply pw_below_drewN | apply below_drew1) | exact HB.out)⟩⟩
  case round =>
    clear H'
    obtain ⟨s, J, rfl, rfl, HA, HX, aa, BN, HB⟩ := hrel
    cases gk with
    | zero => exact absurd HA.out (by simp [impl_bsf.l0])
    | succ k1 =>
      have H := HA.out
      clear HA
      simp only [impl_bsf.l0] at H
      by_cases c1 : s < J
      · rw [if_pos c1] at H
        have aq : decide (s < J) = true := decide_eq_true c1
        have hX := HX.out
        have hM := an.out
        have hh := half_u (x := s) (y := J) (by omega)
        have ab : 0 ≤ (s + J) / 2 := by omega
        have ae : (s + J) / 2 < J := by omega
        have af : s ≤ (s + J) / 2 := by omega
        clear c1 hX hM
        go_wp2
        rw [hh]
        clear hh
        generalize (s + J) / 2 = q at H ab ae af ⊢
        have Y := ab
        have Z : q < (l0.length : Int) := by have := HX.out; omega
        obtain ⟨ad, ea, L, O⟩ := at_T36 al.out q Y Z
        cases ea
        replace L := (HB.out.cell (World.block_lt_of_cell? w _ L)).trans L
        replace O := (HB.out.cell (World.block_lt_of_cell? w _ O)).trans O
        replace Y := eq_true Y
        replace Z := eq_true Z
        have HQ := am (show 0 ≤ q ∧ q < J ∧ s ≤ q from ⟨ab, ae, af⟩)
        clear ab ae af
        generalize (rd_T36 l0 q).f0 = f0 at H L O
        generalize (rd_T36 l0 q).f1 = f1 at H L O
        refine wp_region_bel (by kernel_rfl) (by kernel_rfl) ?_
        have T := am (blk_drew BN.out)
        have I := am (below_drew1 HB.out)
        clear BN HB
        have BN := T
        have HB := I
        clear T I
        have hx0' : wr.drew.cell? (ad.add (q.toNat * 2)) = some (.int .i64 f0) := L
        have hx1' : wr.drew.cell? ⟨(ad.add (q.toNat * 2)).block, (ad.add (q.toNat * 2)).off + 1, none⟩ = some (.int .i64 f1) := O
        clear L O
        generalize wr.drew = X at BN HB hx0' hx1' ⊢
        have ag : ∀ p : Bel X, p.v.cell? (ad.add (q.toNat * 2)) = some (.int .i64 f0) := fun p => cell_bel hx0' p
        have ah : ∀ p : Bel X, p.v.cell? ⟨(ad.add (q.toNat * 2)).block, (ad.add (q.toNat * 2)).off + 1, none⟩ = some (.int .i64 f1) := fun p => cell_bel hx1' p
        have ai : ∀ p : Bel X, p.v.cell? ⟨gn, 0, none⟩ = some (.int .i64 D) := fun p => cell_bel ((blk_cell BN.out 0).trans rfl) p
        have aj : ∀ p : Bel X, p.v.cell? ⟨gn, 1, none⟩ = some (.int .i64 G) := fun p => cell_bel ((blk_cell BN.out 1).trans rfl) p
        clear hx0' hx1'
        by_cases c2 : oN f0 f1 D G < 0
        · rw [if_pos c2] at H
          have ar : decide (oN f0 f1 D G < 0) = true := decide_eq_true c2
          clear c2
          have H' := am H
          clear H
          repeat (go_big_quiet_step (with_reducible exact calls_bel (impl_nodeOrder.calls f0 f1 D G _ _ (iO f0 f1 D G))))
          refine wpQuiet_nil ?_
          intro _ hw'
          obtain ⟨⟨w6, hb⟩, hw''⟩ := hw'
          subst hw''
          clear ag ah ai aj
          have T := am (blk_below BN.out hb)
          have I := am (below_step HB.out hb)
          clear BN HB hb
          have BN := T
          have HB := I
          clear T I
          go_wp2
          go_roundg k1
          case measure => have := aa.out; omega
          case rel => exact ⟨q + 1, J, (by first | rfl | (simp; done) | (simp [*]; done) | (simp; unfold wrap64; have := HQ.out; have := HX.out; have := an.out; omega)), (by first | rfl | (simp; done) | (simp [*]; done)), H', ⟨by have := HQ.out; have := HX.out; omega⟩, ⟨by have := aa.out; omega⟩, ⟨by (with_reducible repeat (first | refine blk_drewN ?_ _ | refine blk_drew ?_ | refine blk_alloc ?_ _)); exact BN.out⟩, ⟨by repeat (first | (with_reducible first | exact HB.out | apply below_alloc | apply pw_below_drewN | apply below_drew1) | exact HB.out)⟩⟩
        · rw [if_neg c2] at H
          have ar : decide (oN f0 f1 D G < 0) = false := decide_eq_false c2
          clear c2
          have H' := am H
          clear H
          repeat (go_big_quiet_step (with_reducible exact calls_bel (impl_nodeOrder.calls f0 f1 D G _ _ (iO f0 f1 D G))))
          refine wpQuiet_nil ?_
          intro _ hw'
          obtain ⟨⟨w6, hb⟩, hw''⟩ := hw'
          subst hw''
          clear ag ah ai aj
          have T := am (blk_below BN.out hb)
          have I := am (below_step HB.out hb)
          clear BN HB hb
          have BN := T
          have HB := I
          clear T I
          go_wp2
          go_roundg k1
          case measure => have := aa.out; omega
          case rel => exact ⟨s, q, (by first | rfl | (simp; done) | (simp [*]; done)), (by first | rfl | (simp; done) | (simp [*]; done)), H', ⟨by have := HQ.out; have := HX.out; omega⟩, ⟨by have := aa.out; omega⟩, ⟨by (with_reducible repeat (first | refine blk_drewN ?_ _ | refine blk_drew ?_ | refine blk_alloc ?_ _)); exact BN.out⟩, ⟨by repeat (first | (with_reducible first | exact HB.out | apply below_alloc | apply pw_below_drewN | apply below_drew1) | exact HB.out)⟩⟩
      · rw [if_neg c1] at H
        have aq : decide (s < J) = false := decide_eq_false c1
        clear c1
        by_cases c3 : s < (l0.length : Int)
        · rw [if_pos c3] at H
          have au : decide (s < (l0.length : Int)) = true := decide_eq_true c3
          have Y : 0 ≤ s := HX.out.1
          have Z : s < (l0.length : Int) := c3
          obtain ⟨ad, ea, L, O⟩ := at_T36 al.out s Y Z
          cases ea
          replace L := (HB.out.cell (World.block_lt_of_cell? w _ L)).trans L
          replace O := (HB.out.cell (World.block_lt_of_cell? w _ O)).trans O
          replace Y := eq_true Y
          replace Z := eq_true Z
          clear c3
          generalize (rd_T36 l0 s).f0 = f0 at H L O
          generalize (rd_T36 l0 s).f1 = f1 at H L O
          simp only [Option.some.injEq, Prod.mk.injEq] at H
          obtain ⟨rfl, rfl⟩ := H
          go_wp2
          refine wp_region_bel (by kernel_rfl) (by kernel_rfl) ?_
          have T := am (blk_drew BN.out)
          have I := am (below_drew1 HB.out)
          clear BN HB
          have BN := T
          have HB := I
          clear T I
          have hx0' : wr.drew.cell? (ad.add (s.toNat * 2)) = some (.int .i64 f0) := L
          have hx1' : wr.drew.cell? ⟨(ad.add (s.toNat * 2)).block, (ad.add (s.toNat * 2)).off + 1, none⟩ = some (.int .i64 f1) := O
          clear L O
          generalize wr.drew = X at BN HB hx0' hx1' ⊢
          have ag : ∀ p : Bel X, p.v.cell? (ad.add (s.toNat * 2)) = some (.int .i64 f0) := fun p => cell_bel hx0' p
          have ah : ∀ p : Bel X, p.v.cell? ⟨(ad.add (s.toNat * 2)).block, (ad.add (s.toNat * 2)).off + 1, none⟩ = some (.int .i64 f1) := fun p => cell_bel hx1' p
          have ai : ∀ p : Bel X, p.v.cell? ⟨gn, 0, none⟩ = some (.int .i64 D) := fun p => cell_bel ((blk_cell BN.out 0).trans rfl) p
          have aj : ∀ p : Bel X, p.v.cell? ⟨gn, 1, none⟩ = some (.int .i64 G) := fun p => cell_bel ((blk_cell BN.out 1).trans rfl) p
          clear hx0' hx1'
          repeat (go_big_quiet_step (with_reducible exact calls_bel (impl_nodeOrder.calls f0 f1 D G _ _ (iO f0 f1 D G))))
          refine wpQuiet_nil ?_
          intro _ hw'
          obtain ⟨⟨w6, hb⟩, hw''⟩ := hw'
          subst hw''
          go_wp2
          go_ret2
          exact ⟨by first | rfl | (simp; done) | (simp [*]; done), below_step HB.out hb⟩
        · rw [if_neg c3] at H
          simp only [Option.some.injEq, Prod.mk.injEq] at H
          obtain ⟨rfl, rfl⟩ := H
          have au : decide (s < (l0.length : Int)) = false := decide_eq_false c3
          clear c3
          go_wp2
          refine wp_region_bel (by kernel_rfl) (by kernel_rfl) ?_
          have I := am (below_drew1 HB.out)
          clear HB
          have HB := I
          clear I
          generalize wr.drew = X at HB ⊢
          repeat (go_big_quiet_step (fail))
          refine wpQuiet_nil ?_
          intro _ hw'
          obtain ⟨⟨w6, hb⟩, hw''⟩ := hw'
          subst hw''
          go_wp2
          go_ret2
          exact ⟨by first | rfl | (simp; done) | (simp [*]; done), below_step HB.out hb⟩

/-! ### impl_nodeThere: function 118 -/
def impl_nodeThere.f (k : Nat) (l0 : List S36) (s z : Int) : Option Bool := (impl_bsf.f k l0 s z).bind fun b => some b.2
set_option maxHeartbeats 8000000 in
set_option maxRecDepth 100000 in
theorem impl_nodeThere.calls (k : Nat) (I : Option Addr) (J : Nat) (l0 : List S36) (s z : Int) (r : Bool) (w : World) (L : Kd.C k36 w I l0.length l0) (O : l0.length ≤ J) (h : impl_nodeThere.f k l0 s z = some r) :
    Calls Try.prog 118 #[.slice I l0.length J, .agg #[.int .i64 s, .int .i64 z]] w fun e w' => e = .returned (.bool r) ∧ Below w.heap.size w w' := by
  have hu36 := Try.underlying36
  have Y := am L
  have Z := am O
  clear L O
  have HB := am (Below.refl w.heap.size w)
  obtain ⟨⟨q1, q2⟩, hq, h⟩ := Option.bind_eq_some_iff.1 h
  obtain rfl := Option.some.inj h
  have HQ := am hq
  clear hq h
  go_enter Try.func118, Try.ntmps118
  go_wp2_with (first | ((with_reducible refine gate_dst (N := 3) rfl ?_); refine box_event ?hg (N := 3) ?hd (cs := #[.int .i64 s, .int .i64 z]) (t := 36) ?hr ?_; (case hd => rfl); (case hg => rfl); (case hr => first | (go_simp; done) | (go_simp; rfl)); intro gn hg T hbox hb; have G := am (below_step HB.out hb); have X := am hbox; clear HB; have HB := G; have BN := X; clear G X hg hb hbox; have aa : T.cell? ⟨gn, 0, none⟩ = some (.int .i64 s) := (blk_cell BN.out 0).trans rfl; have ab : T.cell? ⟨gn, 1, none⟩ = some (.int .i64 z) := (blk_cell BN.out 1).trans rfl))
  refine (impl_bsf.calls k _ _ l0 s z q1 q2 _ ?ac Z.out HQ.out).mono ?_
  case ac => repeat (first | exact (Kd.C_below Y.out HB.out) | (with_reducible refine Kd.C_alloc ?_ _) | (with_reducible refine Kd.C_drewN ?_ _) | (with_reducible refine Kd.C_drew ?_))
  rintro e w5 ⟨rfl, hb⟩
  have G := am (below_step (by repeat (first | (with_reducible first | exact HB.out | apply below_alloc | apply pw_below_drewN | apply below_drew1) | exact HB.out)) hb)
  clear HB hb BN aa ab
  have HB := G
  clear G
  go_wp2
  go_ret
  exact ⟨by first | rfl | (simp; done) | (simp [*]; done), by repeat (first | (with_reducible first | exact HB.out | apply below_alloc | apply pw_below_drewN | apply below_drew1) | exact HB.out)⟩

/-! ### impl_edgesOk: function 82 -/
def impl_edgesOk.l0 : Nat → List S56 → List S36 → List Int → Int → Option Bool
 | 0, _, _, _, _ => none
 | k + 1, es, ns, m, i => if i < (es.length : Int) then (if 0 ≤ i then (if EOk (rd_T56 es i).f0 (rd_T56 es i).f1.f0 (rd_T56 es i).f1.f1 (rd_T56 es i).f2.f0 (rd_T56 es i).f2.f1 = true then (if rd m (rd_T56 es i).f0 = 7 then some false else (if i > 0 then (if 0 ≤ wrap64 (i - 1) then (if wrap64 (i - 1) < (es.length : Int) then (impl_edgeOrder.f k (rd_T56 es (wrap64 (i - 1))).f0 (rd_T56 es (wrap64 (i - 1))).f1.f0 (rd_T56 es (wrap64 (i - 1))).f1.f1 (rd_T56 es (wrap64 (i - 1))).f2.f0 (rd_T56 es (wrap64 (i - 1))).f2.f1 (rd_T56 es i).f0 (rd_T56 es i).f1.f0 (rd_T56 es i).f1.f1 (rd_T56 es i).f2.f0 (rd_T56 es i).f2.f1).bind fun t => if t ≥ 0 then some false else ((impl_nodeThere.f k ns (rd_T56 es i).f1.f0 (rd_T56 es i).f1.f1).bind fun s => if s = true then (impl_nodeThere.f k ns (rd_T56 es i).f2.f0 (rd_T56 es i).f2.f1).bind fun z => if z = true then impl_edgesOk.l0 k es ns (m.set ((rd_T56 es i).f0).toNat (wrap64 (rd m (rd_T56 es i).f0 + 1))) (wrap64 (i + 1)) else some false else some false) else none) else none) else ((impl_nodeThere.f k ns (rd_T56 es i).f1.f0 (rd_T56 es i).f1.f1).bind fun s => if s = true then (impl_nodeThere.f k ns (rd_T56 es i).f2.f0 (rd_T56 es i).f2.f1).bind fun z => if z = true then impl_edgesOk.l0 k es ns (m.set ((rd_T56 es i).f0).toNat (wrap64 (rd m (rd_T56 es i).f0 + 1))) (wrap64 (i + 1)) else some false else some false))) else some false) else none) else some true
def impl_edgesOk.f (k : Nat) (l0 : List S56) (l1 : List S36) : Option Bool := impl_edgesOk.l0 k l0 l1 [0, 0, 0, 0, 0, 0, 0, 0] 0
theorem impl_edgesOk.calls (k : Nat) (A0 : Option Addr) (c0 : Nat) (l0 : List S56) (A1 : Option Addr) (c1 : Nat) (l1 : List S36) (r : Bool) (w : World) (aB : Kd.C k56 w A0 l0.length l0) (aC : l0.length ≤ c0) (aD : Kd.C k36 w A1 l1.length l1) (aE : l1.length ≤ c1) (h : impl_edgesOk.f k l0 l1 = some r) :
  Calls Try.prog 82 #[.slice A0 l0.length c0, .slice A1 l1.length c1] w fun e w' => e = .returned (.bool r) ∧ Below w.heap.size w w' := by
 have hu36 := Try.underlying36
 have hu56 := Try.underlying56
 have hu122 := Try.underlying122
 have aA := am aB
 have bh := am aC
 have ax := am aD
 have ay := am aE
 clear aB aC aD aE
 have HB := am (Below.refl w.heap.size w)
 have H' := am (show impl_edgesOk.l0 k l0 l1 [0, 0, 0, 0, 0, 0, 0, 0] 0 = some r from h)
 clear h
 go_enter Try.func82, Try.ntmps82
 go_wp2_with (first | ((with_reducible refine gd 5 rfl ?_); refine bx 5 (cs := cts [0, 0, 0, 0, 0, 0, 0, 0]) (t := 122) ?_; intro gb hg w3 hbox hb; have BK := am hbox; have GE := Ge.mk ((by rw [hg]; exact (below_size (bs HB.out)) : w.heap.size ≤ gb)); replace HB := am (below_step HB.out hb); clear hg hb hbox))
 go_loopg [10] k (fun kq aT w' => ∃ (D : Int) (m : List Int), aT = .int .i64 D ∧ Aside0 (impl_edgesOk.l0 kq l0 l1 m D = some r) ∧ Aside0 (m.length = 8) ∧ Aside0 (kq ≤ k) ∧ Aside0 (w'.heap[gb]? = some (.cells (cts m) 122 (0, 0))) ∧ Aside0 (Below w.heap.size w w'))
 case atStart => exact ⟨0, [0, 0, 0, 0, 0, 0, 0, 0], eqs, H', ⟨rfl⟩, ⟨Nat.le_refl _⟩, ⟨bf BK.out⟩, ⟨bs HB.out⟩⟩
 case round =>
  clear H'
  obtain ⟨D, m, rfl, HA, HM, az, BK, HB⟩ := hrel
  cases gk with
  | zero => exact absurd HA.out (by simp [impl_edgesOk.l0])
  | succ k1 =>
   have H := HA.out
   clear HA
   simp only [impl_edgesOk.l0] at H
   by_cases c1 : D < (l0.length : Int)
   ·rw [if_pos c1] at H
    have aU : decide (D < (l0.length : Int)) = true := decide_eq_true c1
    by_cases c2 : 0 ≤ D
    ·rw [if_pos c2] at H
     have p0 := c2
     have q0 := c1
     obtain ⟨ad, ea, al, an, ao, ap, aq⟩ := at_T56 aA.out D p0 q0
     cases ea
     have CX := am (show 0 ≤ D ∧ D < (l0.length : Int) from ⟨c2, c1⟩)
     replace al := cb HB al
     replace an := cb HB an
     replace ao := cb HB ao
     replace ap := cb HB ap
     replace aq := cb HB aq
     replace p0 := eq_true p0
     replace q0 := eq_true q0
     clear c1 c2
     generalize (rd_T56 l0 D).f0 = z at H al an ao ap aq
     generalize (rd_T56 l0 D).f1.f0 = L at H al an ao ap aq
     generalize (rd_T56 l0 D).f1.f1 = T at H al an ao ap aq
     generalize (rd_T56 l0 D).f2.f0 = O at H al an ao ap aq
     generalize (rd_T56 l0 D).f2.f1 = X at H al an ao ap aq
     go_wp2_with (first | ((with_reducible refine gd 7 rfl ?_); refine bx 7 (cs := #[.int .i64 0, .int .i64 0, .int .i64 0, .int .i64 0, .int .i64 0]) (t := 56) ?_; intro gn hg w5 hbox hb; have BN := am hbox; have GN := am ((by rw [hg]; exact (below_size (bs HB.out)) : w.heap.size ≤ gn)); replace HB := hs HB hb; have NE := am ((by rw [hg]; exact Nat.ne_of_lt (blk_lt (g := gb) (bf BK.out)) : gb ≠ gn)); replace BK := am (blk_below (g := gb) (bf BK.out) hb); clear hb hbox hg; have Z : w5.cell? ⟨gn, 0, none⟩ = some (.int .i64 0) := (blk_cell BN.out 0).trans rfl; have aa : w5.cell? ⟨gn, 1, none⟩ = some (.int .i64 0) := (blk_cell BN.out 1).trans rfl; have ab : w5.cell? ⟨gn, 2, none⟩ = some (.int .i64 0) := (blk_cell BN.out 2).trans rfl; have ac : w5.cell? ⟨gn, 3, none⟩ = some (.int .i64 0) := (blk_cell BN.out 3).trans rfl; have ae : w5.cell? ⟨gn, 4, none⟩ = some (.int .i64 0) := (blk_cell BN.out 4).trans rfl; have aV := blk_frozen BN.out 0; have aW := blk_frozen BN.out 1; have aX := blk_frozen BN.out 2; have aY := blk_frozen BN.out 3; have aZ := blk_frozen BN.out 4))
     have G := am (blk_far (blk_far (blk_far (blk_far (blk_far (BK.out) (p := ⟨gn, 0, none⟩) NE.out (.int .i64 z)) (p := ⟨gn, 1, none⟩) NE.out (.int .i64 L)) (p := ⟨gn, 2, none⟩) NE.out (.int .i64 T)) (p := ⟨gn, 3, none⟩) NE.out (.int .i64 O)) (p := ⟨gn, 4, none⟩) NE.out (.int .i64 X))
     have I := am (blk_put (cs' := #[.int .i64 z, .int .i64 L, .int .i64 T, .int .i64 O, .int .i64 X]) (blk_put (cs' := #[.int .i64 z, .int .i64 L, .int .i64 T, .int .i64 O, .int .i64 0]) (blk_put (cs' := #[.int .i64 z, .int .i64 L, .int .i64 T, .int .i64 0, .int .i64 0]) (blk_put (cs' := #[.int .i64 z, .int .i64 L, .int .i64 0, .int .i64 0, .int .i64 0]) (blk_put (cs' := #[.int .i64 z, .int .i64 0, .int .i64 0, .int .i64 0, .int .i64 0]) (BN.out) 0 (.int .i64 z) rfl) 1 (.int .i64 L) rfl) 2 (.int .i64 T) rfl) 3 (.int .i64 O) rfl) 4 (.int .i64 X) rfl)
     have J := am (below_set (j := 4) (v := .int .i64 X) (below_set (j := 3) (v := .int .i64 O) (below_set (j := 2) (v := .int .i64 T) (below_set (j := 1) (v := .int .i64 L) (below_set (j := 0) (v := .int .i64 z) (HB.out) GN.out) GN.out) GN.out) GN.out) GN.out)
     clear BK BN HB Z aV aa aW ab aX ac aY ae aZ
     have BK := G
     have BN := I
     have HB := J
     clear G I J
     generalize (((((w5).setCell ⟨gn, 0, none⟩ (.int .i64 z)).setCell ⟨gn, 1, none⟩ (.int .i64 L)).setCell ⟨gn, 2, none⟩ (.int .i64 T)).setCell ⟨gn, 3, none⟩ (.int .i64 O)).setCell ⟨gn, 4, none⟩ (.int .i64 X) = w6 at BK BN HB ⊢
     refine (impl_EdgeOk.calls z L T O X (EOk z L T O X) _ rfl).mono ?_
     rintro e Y ⟨rfl, hb⟩
     have G := am (blk_below BK.out hb)
     have I := am (blk_below BN.out hb)
     have J := am (below_step (bs HB.out) hb)
     clear BK BN HB hb
     have BK := G
     have BN := I
     have HB := J
     clear G I J
     have Z : Y.cell? ⟨gn, 0, none⟩ = some (.int .i64 z) := (blk_cell BN.out 0).trans rfl
     have aa : Y.cell? ⟨gn, 1, none⟩ = some (.int .i64 L) := (blk_cell BN.out 1).trans rfl
     have ab : Y.cell? ⟨gn, 2, none⟩ = some (.int .i64 T) := (blk_cell BN.out 2).trans rfl
     have ac : Y.cell? ⟨gn, 3, none⟩ = some (.int .i64 O) := (blk_cell BN.out 3).trans rfl
     have ae : Y.cell? ⟨gn, 4, none⟩ = some (.int .i64 X) := (blk_cell BN.out 4).trans rfl
     by_cases c3 : EOk z L T O X = true
     ·rw [if_pos c3] at H
      have HL := am (EOk_l c3)
      obtain ⟨j0, aF⟩ := Int.eq_ofNat_of_zero_le HL.out.1
      have aG : Y.cell? ⟨gb, j0, none⟩ = some (.int .i64 (rd m z)) := by rw [aF]; exact (blk_cell BK.out j0).trans (cts_get m j0 (by have := HM.out; have := HL.out.2; omega))
      have htn : (z : Int).toNat = j0 := by omega
      have hcm : Y.cell? ⟨gb, (z : Int).toNat, none⟩ = some (.int .i64 (rd m z)) := by rw [htn]; exact aG
      have hfm := blk_frozen BK.out (z : Int).toNat
      have hlo : (0 ≤ z) = True := eq_true HL.out.1
      have hhi : (z < 8) = True := eq_true (by have := HL.out.2; omega)
      have aH : (z : Int).toNat < 8 := by have := HL.out; omega
      clear aF aG htn j0
      by_cases c4 : rd m z = 7
      ·rw [if_pos c4] at H
       have ba : (rd m z == 7) = true := beq_iff_eq.mpr c4
       clear c4
       obtain rfl := Option.some.inj H
       go_wp2
       go_ret
       exact ⟨eqs, bs HB.out⟩
      ·rw [if_neg c4] at H
       have ba : (rd m z == 7) = false := beq_eq_false_iff_ne.mpr c4
       clear c4
       by_cases c5 : D > 0
       ·rw [if_pos c5] at H
        have bc : decide (0 < D) = true := decide_eq_true c5
        have hwr : wrap64 (D - 1) = D - 1 := w64 (by have := CX.out; have := aA.out.2.1; omega)
        rw [hwr] at H
        rw [if_pos (show 0 ≤ D - 1 by omega), if_pos (show D - 1 < (l0.length : Int) by have := CX.out; omega)] at H
        obtain ⟨q, hq⟩ : ∃ q, D - 1 = q := ⟨_, rfl⟩
        have hqw : wrap64 (D - 1) = q := hwr.trans hq
        rw [hq] at H
        have p1 : 0 ≤ q := by omega
        have q1 : q < (l0.length : Int) := by have := CX.out; omega
        obtain ⟨ad', ea', af, ag, ah, ai, aj⟩ := at_T56 aA.out q p1 q1
        obtain rfl : ad = ad' := by injection ea'
        clear ea' hwr
        replace hq := am hq
        replace af : Y.cell? (ad.add (q.toNat * 5)) = some (.int .i64 (rd_T56 l0 q).f0) := cb HB af
        replace ag : Y.cell? ⟨(ad.add (q.toNat * 5)).block, (ad.add (q.toNat * 5)).off + 1, none⟩ = some (.int .i64 (rd_T56 l0 q).f1.f0) := cb HB ag
        replace ah : Y.cell? ⟨(ad.add (q.toNat * 5)).block, (ad.add (q.toNat * 5)).off + 2, none⟩ = some (.int .i64 (rd_T56 l0 q).f1.f1) := cb HB ah
        replace ai : Y.cell? ⟨(ad.add (q.toNat * 5)).block, (ad.add (q.toNat * 5)).off + 3, none⟩ = some (.int .i64 (rd_T56 l0 q).f2.f0) := cb HB ai
        replace aj : Y.cell? ⟨(ad.add (q.toNat * 5)).block, (ad.add (q.toNat * 5)).off + 4, none⟩ = some (.int .i64 (rd_T56 l0 q).f2.f1) := cb HB aj
        replace p1 := eq_true p1
        replace q1 := eq_true q1
        generalize (rd_T56 l0 q).f0 = d0 at H af ag ah ai aj
        generalize (rd_T56 l0 q).f1.f0 = d1 at H af ag ah ai aj
        generalize (rd_T56 l0 q).f1.f1 = d2 at H af ag ah ai aj
        generalize (rd_T56 l0 q).f2.f0 = d3 at H af ag ah ai aj
        generalize (rd_T56 l0 q).f2.f1 = d4 at H af ag ah ai aj
        replace H := Option.bind_eq_some_iff.mp H
        obtain ⟨t, aI, H⟩ := H
        have A3 := am aI
        clear aI
        go_wp2
        refine wp_region_bel (by kernel_rfl) (by kernel_rfl) ?_
        clear Z aa ab ac ae hcm hfm hlo hhi aH
        replace BK := bd BK
        replace BN := am (blk_drew BN.out)
        replace HB := hd HB
        replace af : Y.drew.cell? (ad.add (q.toNat * 5)) = some (.int .i64 d0) := af
        replace ag : Y.drew.cell? ⟨(ad.add (q.toNat * 5)).block, (ad.add (q.toNat * 5)).off + 1, none⟩ = some (.int .i64 d1) := ag
        replace ah : Y.drew.cell? ⟨(ad.add (q.toNat * 5)).block, (ad.add (q.toNat * 5)).off + 2, none⟩ = some (.int .i64 d2) := ah
        replace ai : Y.drew.cell? ⟨(ad.add (q.toNat * 5)).block, (ad.add (q.toNat * 5)).off + 3, none⟩ = some (.int .i64 d3) := ai
        replace aj : Y.drew.cell? ⟨(ad.add (q.toNat * 5)).block, (ad.add (q.toNat * 5)).off + 4, none⟩ = some (.int .i64 d4) := aj
        generalize Y.drew = w8 at BK BN HB af ag ah ai aj ⊢
        have aJ : ∀ p : Bel w8, p.v.cell? (ad.add (q.toNat * 5)) = some (.int .i64 d0) := fun p => cell_bel af p
        have aK : ∀ p : Bel w8, p.v.cell? ⟨(ad.add (q.toNat * 5)).block, (ad.add (q.toNat * 5)).off + 1, none⟩ = some (.int .i64 d1) := fun p => cell_bel ag p
        have aL : ∀ p : Bel w8, p.v.cell? ⟨(ad.add (q.toNat * 5)).block, (ad.add (q.toNat * 5)).off + 2, none⟩ = some (.int .i64 d2) := fun p => cell_bel ah p
        have aM : ∀ p : Bel w8, p.v.cell? ⟨(ad.add (q.toNat * 5)).block, (ad.add (q.toNat * 5)).off + 3, none⟩ = some (.int .i64 d3) := fun p => cell_bel ai p
        have aN : ∀ p : Bel w8, p.v.cell? ⟨(ad.add (q.toNat * 5)).block, (ad.add (q.toNat * 5)).off + 4, none⟩ = some (.int .i64 d4) := fun p => cell_bel aj p
        clear af ag ah ai aj
        have aO : ∀ p : Bel w8, p.v.cell? ⟨gn, 0, none⟩ = some (.int .i64 z) := fun p => cell_bel ((blk_cell BN.out 0).trans rfl) p
        have aP : ∀ p : Bel w8, p.v.cell? ⟨gn, 1, none⟩ = some (.int .i64 L) := fun p => cell_bel ((blk_cell BN.out 1).trans rfl) p
        have aQ : ∀ p : Bel w8, p.v.cell? ⟨gn, 2, none⟩ = some (.int .i64 T) := fun p => cell_bel ((blk_cell BN.out 2).trans rfl) p
        have aR : ∀ p : Bel w8, p.v.cell? ⟨gn, 3, none⟩ = some (.int .i64 O) := fun p => cell_bel ((blk_cell BN.out 3).trans rfl) p
        have aS : ∀ p : Bel w8, p.v.cell? ⟨gn, 4, none⟩ = some (.int .i64 X) := fun p => cell_bel ((blk_cell BN.out 4).trans rfl) p
        by_cases c6 : t ≥ 0
        ·rw [if_pos c6] at H
         have be : decide (0 ≤ t) = true := decide_eq_true c6
         clear c6
         repeat (go_big_quiet_step (with_reducible exact calls_bel (impl_edgeOrder.calls k1 d0 d1 d2 d3 d4 z L T O X t _ A3.out)))
         refine wpQuiet_nil ?_
         intro w9 hw'
         obtain ⟨⟨wq_, hb⟩, hw''⟩ := hw'
         subst hw''
         clear aJ aK aL aM aN aO aP aQ aR aS hqw
         have G := am (blk_below BK.out hb)
         have I := am (blk_below BN.out hb)
         have J := am (below_step (bs HB.out) hb)
         clear BK BN HB hb
         have BK := G
         have BN := I
         have HB := J
         clear G I J
         obtain rfl := Option.some.inj H
         go_wp2
         go_ret
         exact ⟨eqs, bs HB.out⟩
        ·rw [if_neg c6] at H
         have be : decide (0 ≤ t) = false := decide_eq_false c6
         clear c6
         repeat (go_big_quiet_step (with_reducible exact calls_bel (impl_edgeOrder.calls k1 d0 d1 d2 d3 d4 z L T O X t _ A3.out)))
         refine wpQuiet_nil ?_
         intro w9 hw'
         obtain ⟨⟨wq_, hb⟩, hw''⟩ := hw'
         subst hw''
         clear aJ aK aL aM aN aO aP aQ aR aS hqw
         have G := am (blk_below BK.out hb)
         have I := am (blk_below BN.out hb)
         have J := am (below_step (bs HB.out) hb)
         clear BK BN HB hb
         have BK := G
         have BN := I
         have HB := J
         clear G I J
         replace H := Option.bind_eq_some_iff.mp H
         obtain ⟨t1, au, H⟩ := H
         have A1 := am au
         clear au
         have Z : w9.cell? ⟨gn, 0, none⟩ = some (.int .i64 z) := (blk_cell BN.out 0).trans rfl
         have aa : w9.cell? ⟨gn, 1, none⟩ = some (.int .i64 L) := (blk_cell BN.out 1).trans rfl
         have ab : w9.cell? ⟨gn, 2, none⟩ = some (.int .i64 T) := (blk_cell BN.out 2).trans rfl
         have ac : w9.cell? ⟨gn, 3, none⟩ = some (.int .i64 O) := (blk_cell BN.out 3).trans rfl
         have ae : w9.cell? ⟨gn, 4, none⟩ = some (.int .i64 X) := (blk_cell BN.out 4).trans rfl
         go_wp2_with fail
         refine (impl_nodeThere.calls k1 _ _ l1 L T t1 _ ?ar ay.out A1.out).mono ?_
         case ar => exact Kd.C_below ax.out (bs HB.out)
         rintro e ak ⟨rfl, hb⟩
         clear Z aa ab ac ae
         have G := am (blk_below BK.out hb)
         have I := am (blk_below BN.out hb)
         have J := am (below_step (bs HB.out) hb)
         clear BK BN HB hb
         have BK := G
         have BN := I
         have HB := J
         clear G I J
         by_cases c7 : t1 = true
         ·subst c7
          replace H : ((impl_nodeThere.f k1 l1 O X).bind fun t2 => if t2 = true then impl_edgesOk.l0 k1 l0 l1 (m.set (z : Int).toNat (wrap64 (rd m z + 1))) (wrap64 (D + 1)) else some false) = some r := by rw [if_pos rfl] at H; exact H
          replace H := Option.bind_eq_some_iff.mp H
          obtain ⟨t2, av, H⟩ := H
          have A2 := am av
          clear av
          have Z : ak.cell? ⟨gn, 0, none⟩ = some (.int .i64 z) := (blk_cell BN.out 0).trans rfl
          have aa : ak.cell? ⟨gn, 1, none⟩ = some (.int .i64 L) := (blk_cell BN.out 1).trans rfl
          have ab : ak.cell? ⟨gn, 2, none⟩ = some (.int .i64 T) := (blk_cell BN.out 2).trans rfl
          have ac : ak.cell? ⟨gn, 3, none⟩ = some (.int .i64 O) := (blk_cell BN.out 3).trans rfl
          have ae : ak.cell? ⟨gn, 4, none⟩ = some (.int .i64 X) := (blk_cell BN.out 4).trans rfl
          go_wp2_with fail
          refine (impl_nodeThere.calls k1 _ _ l1 O X t2 _ ?ar ay.out A2.out).mono ?_
          case ar => exact Kd.C_below ax.out (bs HB.out)
          rintro e aw ⟨rfl, hb⟩
          clear Z aa ab ac ae
          have G := am (blk_below BK.out hb)
          have I := am (blk_below BN.out hb)
          have J := am (below_step (bs HB.out) hb)
          clear BK BN HB hb
          have BK := G
          have BN := I
          have HB := J
          clear G I J
          by_cases c8 : t2 = true
          ·subst c8
           replace H : impl_edgesOk.l0 k1 l0 l1 (m.set (z : Int).toNat (wrap64 (rd m z + 1))) (wrap64 (D + 1)) = some r := by rw [if_pos rfl] at H; exact H
           have H' := am H
           clear H
           obtain ⟨j, rfl⟩ := Int.eq_ofNat_of_zero_le HL.out.1
           have Z : aw.cell? ⟨gn, 0, none⟩ = some (.int .i64 (j : Int)) := (blk_cell BN.out 0).trans rfl
           have bg : j < 8 := by have := HL.out.2; omega
           have hjm : j < m.length := by have := HM.out; omega
           have hcm : aw.cell? ⟨gb, j, none⟩ = some (.int .i64 (rd m j)) := (blk_cell BK.out j).trans (cts_get m j hjm)
           have hfm := blk_frozen BK.out j
           have hlo : (0 ≤ (j : Int)) = True := eq_true (by omega)
           have hhi : ((j : Int) < 8) = True := eq_true (by omega)
           go_wp2
           go_roundg k1
           case measure => have := az.out; omega
           case rel => exact ⟨wrap64 (D + 1), m.set j (wrap64 (rd m (j : Int) + 1)), eqs, ⟨by simpa using H'.out⟩, ⟨by simpa using HM.out⟩, ⟨by have := az.out; omega⟩, ⟨by refine blk_put ?_ j _ (cts_set m j _); exact bf BK.out⟩, ⟨bs HB.out⟩⟩
          ·replace c8 := Bool.eq_false_iff.mpr c8
           subst c8
           replace H : some false = some r := by rw [if_neg (by decide)] at H; exact H
           obtain rfl := Option.some.inj H
           go_wp2
           go_ret
           exact ⟨eqs, bs HB.out⟩
         ·replace c7 := Bool.eq_false_iff.mpr c7
          subst c7
          replace H : some false = some r := by rw [if_neg (by decide)] at H; exact H
          obtain rfl := Option.some.inj H
          go_wp2
          go_ret
          exact ⟨eqs, bs HB.out⟩
       ·rw [if_neg c5] at H
        have bc : decide (0 < D) = false := decide_eq_false c5
        clear c5
        go_wp2
        refine wp_region_bel (by kernel_rfl) (by kernel_rfl) ?_
        clear Z aa ab ac ae hcm hfm hlo hhi aH
        replace BK := bd BK
        replace BN := am (blk_drew BN.out)
        replace HB := hd HB
        generalize Y.drew = w8 at BK BN HB ⊢
        repeat (go_big_quiet_step (fail))
        refine wpQuiet_nil ?_
        intro w9 hw'
        obtain ⟨⟨wq_, hb⟩, hw''⟩ := hw'
        subst hw''
        have G := am (blk_below BK.out hb)
        have I := am (blk_below BN.out hb)
        have J := am (below_step (bs HB.out) hb)
        clear BK BN HB hb
        have BK := G
        have BN := I
        have HB := J
        clear G I J
        replace H := Option.bind_eq_some_iff.mp H
        obtain ⟨t1, au, H⟩ := H
        have A1 := am au
        clear au
        have Z : w9.cell? ⟨gn, 0, none⟩ = some (.int .i64 z) := (blk_cell BN.out 0).trans rfl
        have aa : w9.cell? ⟨gn, 1, none⟩ = some (.int .i64 L) := (blk_cell BN.out 1).trans rfl
        have ab : w9.cell? ⟨gn, 2, none⟩ = some (.int .i64 T) := (blk_cell BN.out 2).trans rfl
        have ac : w9.cell? ⟨gn, 3, none⟩ = some (.int .i64 O) := (blk_cell BN.out 3).trans rfl
        have ae : w9.cell? ⟨gn, 4, none⟩ = some (.int .i64 X) := (blk_cell BN.out 4).trans rfl
        go_wp2_with fail
        refine (impl_nodeThere.calls k1 _ _ l1 L T t1 _ ?ar ay.out A1.out).mono ?_
        case ar => exact Kd.C_below ax.out (bs HB.out)
        rintro e ak ⟨rfl, hb⟩
        clear Z aa ab ac ae
        have G := am (blk_below BK.out hb)
        have I := am (blk_below BN.out hb)
        have J := am (below_step (bs HB.out) hb)
        clear BK BN HB hb
        have BK := G
        have BN := I
        have HB := J
        clear G I J
        by_cases c7 : t1 = true
        ·subst c7
         replace H : ((impl_nodeThere.f k1 l1 O X).bind fun t2 => if t2 = true then impl_edgesOk.l0 k1 l0 l1 (m.set (z : Int).toNat (wrap64 (rd m z + 1))) (wrap64 (D + 1)) else some false) = some r := by rw [if_pos rfl] at H; exact H
         replace H := Option.bind_eq_some_iff.mp H
         obtain ⟨t2, av, H⟩ := H
         have A2 := am av
         clear av
         have Z : ak.cell? ⟨gn, 0, none⟩ = some (.int .i64 z) := (blk_cell BN.out 0).trans rfl
         have aa : ak.cell? ⟨gn, 1, none⟩ = some (.int .i64 L) := (blk_cell BN.out 1).trans rfl
         have ab : ak.cell? ⟨gn, 2, none⟩ = some (.int .i64 T) := (blk_cell BN.out 2).trans rfl
         have ac : ak.cell? ⟨gn, 3, none⟩ = some (.int .i64 O) := (blk_cell BN.out 3).trans rfl
         have ae : ak.cell? ⟨gn, 4, none⟩ = some (.int .i64 X) := (blk_cell BN.out 4).trans rfl
         go_wp2_with fail
         refine (impl_nodeThere.calls k1 _ _ l1 O X t2 _ ?ar ay.out A2.out).mono ?_
         case ar => exact Kd.C_below ax.out (bs HB.out)
         rintro e aw ⟨rfl, hb⟩
         clear Z aa ab ac ae
         have G := am (blk_below BK.out hb)
         have I := am (blk_below BN.out hb)
         have J := am (below_step (bs HB.out) hb)
         clear BK BN HB hb
         have BK := G
         have BN := I
         have HB := J
         clear G I J
         by_cases c8 : t2 = true
         ·subst c8
          replace H : impl_edgesOk.l0 k1 l0 l1 (m.set (z : Int).toNat (wrap64 (rd m z + 1))) (wrap64 (D + 1)) = some r := by rw [if_pos rfl] at H; exact H
          have H' := am H
          clear H
          obtain ⟨j, rfl⟩ := Int.eq_ofNat_of_zero_le HL.out.1
          have Z : aw.cell? ⟨gn, 0, none⟩ = some (.int .i64 (j : Int)) := (blk_cell BN.out 0).trans rfl
          have bg : j < 8 := by have := HL.out.2; omega
          have hjm : j < m.length := by have := HM.out; omega
          have hcm : aw.cell? ⟨gb, j, none⟩ = some (.int .i64 (rd m j)) := (blk_cell BK.out j).trans (cts_get m j hjm)
          have hfm := blk_frozen BK.out j
          have hlo : (0 ≤ (j : Int)) = True := eq_true (by omega)
          have hhi : ((j : Int) < 8) = True := eq_true (by omega)
          go_wp2
          go_roundg k1
          case measure => have := az.out; omega
          case rel => exact ⟨wrap64 (D + 1), m.set j (wrap64 (rd m (j : Int) + 1)), eqs, ⟨by simpa using H'.out⟩, ⟨by simpa using HM.out⟩, ⟨by have := az.out; omega⟩, ⟨by refine blk_put ?_ j _ (cts_set m j _); exact bf BK.out⟩, ⟨bs HB.out⟩⟩
         ·replace c8 := Bool.eq_false_iff.mpr c8
          subst c8
          replace H : some false = some r := by rw [if_neg (by decide)] at H; exact H
          obtain rfl := Option.some.inj H
          go_wp2
          go_ret
          exact ⟨eqs, bs HB.out⟩
        ·replace c7 := Bool.eq_false_iff.mpr c7
         subst c7
         replace H : some false = some r := by rw [if_neg (by decide)] at H; exact H
         obtain rfl := Option.some.inj H
         go_wp2
         go_ret
         exact ⟨eqs, bs HB.out⟩
     ·rw [if_neg c3] at H
      replace c3 := Bool.eq_false_iff.mpr c3
      obtain rfl := Option.some.inj H
      rw [c3]
      go_wp2
      go_ret
      exact ⟨eqs, bs HB.out⟩
    ·rw [if_neg c2] at H; cases H
   ·rw [if_neg c1] at H
    have aU : decide (D < (l0.length : Int)) = false := decide_eq_false c1
    clear c1
    obtain rfl := Option.some.inj H
    go_wp2
    go_ret
    exact ⟨eqs, bs HB.out⟩

/-! ### impl_GraphOk: function 34 -/
def impl_GraphOk.f (k : Nat) (s : List (S36)) (z : List (S56)) : Option (Bool) := (impl_nodesOk.f k s).bind fun D => (if D = true then ((impl_edgesOk.f k z s).bind fun G => (some G)) else (some false))
theorem impl_GraphOk.calls (k : Nat) (G : Option Addr) (I : Nat) (s : List (S36)) (O : Option Addr) (T : Nat) (D : List (S56)) (r : Bool) (w : World) (ab : Kd.C k36 w G s.length s) (ac : s.length ≤ I) (ae : Kd.C k56 w O D.length D) (af : D.length ≤ T) (h : impl_GraphOk.f k s D = some r) :
  Calls Try.prog 34 #[.agg #[.slice G s.length I, .slice O D.length T]] w fun e w' => e = .returned (.bool r) ∧ Below w.heap.size w w' := by
 have hu34 := Try.underlying34
 have Y := am ab
 have Z := am ac
 clear ab ac
 have ai := am ae
 have aj := am af
 clear ae af
 have HB := am (Below.refl w.heap.size w)
 have H := h; unfold impl_GraphOk.f at H
 clear h
 replace H := Option.bind_eq_some_iff.mp H
 obtain ⟨ak, ag, H⟩ := H
 try dsimp -simprocs only at H
 have A2 := am ag
 clear ag
 by_cases X : ak = true
 ·subst X
  replace H : ((impl_edgesOk.f k D s).bind fun aa => (some aa)) = some r := by rw [if_pos rfl] at H; exact H
  replace H := Option.bind_eq_some_iff.mp H
  obtain ⟨aa, ah, H⟩ := H
  try dsimp -simprocs only at H
  have A4 := am ah
  clear ah
  obtain rfl := Option.some.inj H
  go_enter Try.func34, Try.ntmps34
  go_wp2_with (first | ((with_reducible refine gd 1 rfl ?_); refine bx 1 (cs := #[.slice G s.length I, .slice O D.length T]) (t := 34) ?_; intro al hg w5 hbox hb; have z := am hbox; have an := gwb HB hg; replace HB := hs HB hb; clear hb hbox hg; obtain ⟨ar, au⟩ := bc2 (w := w5) z.out; have av := blk_frozen z.out) | ((with_reducible refine gc 81 rfl ?_); refine gl 5 Try.func81 #[.slice G s.length I] ?_; (with_reducible refine (impl_nodesOk.calls k _ _ s true _ ?J ?L A2.out).mono ?_); (case J => exact Kd.C_below Y.out (bs HB.out)); (case L => exact Z.out); rintro e w7 ⟨rfl, hb⟩; refine ⟨_, rfl, ?_⟩; replace z := bb z hb rfl; replace HB := hs HB hb; (try clear hb); obtain ⟨aw, ax⟩ := bc2 (w := w7) z.out; have ay := blk_frozen z.out) | (go_at_call 82; (with_reducible refine (impl_edgesOk.calls k _ _ D _ _ s aa _ ?J ?L ?ao ?ap A4.out).mono ?_); (case J => exact Kd.C_below ai.out (bs HB.out)); (case L => exact aj.out); (case ao => exact Kd.C_below Y.out (bs HB.out)); (case ap => exact Z.out); rintro e w9 ⟨rfl, hb⟩; replace z := bb z hb rfl; replace HB := hs HB hb; (try clear hb)))
  go_ret
  exact ⟨eqr, bs HB.out⟩
 ·replace X := Bool.eq_false_iff.mpr X
  subst X
  have H1 : (some false) = some r := by rw [if_neg (show ¬ (false = true) by decide)] at H; exact H
  clear H
  have H := H1
  clear H1
  obtain rfl := Option.some.inj H
  go_enter Try.func34, Try.ntmps34
  go_wp2_with (first | ((with_reducible refine gd 1 rfl ?_); refine bx 1 (cs := #[.slice G s.length I, .slice O D.length T]) (t := 34) ?_; intro al hg aq hbox hb; have z := am hbox; have an := gwb HB hg; replace HB := hs HB hb; clear hb hbox hg; obtain ⟨az, aA⟩ := bc2 (w := aq) z.out; have aB := blk_frozen z.out) | ((with_reducible refine gc 81 rfl ?_); refine gl 5 Try.func81 #[.slice G s.length I] ?_; (with_reducible refine (impl_nodesOk.calls k _ _ s false _ ?J ?L A2.out).mono ?_); (case J => exact Kd.C_below Y.out (bs HB.out)); (case L => exact Z.out); rintro e aC ⟨rfl, hb⟩; refine ⟨_, rfl, ?_⟩; replace z := bb z hb rfl; replace HB := hs HB hb; (try clear hb)))
  go_ret
  exact ⟨eqr, bs HB.out⟩

/-! ### impl_nodePlace: function 67 -/
def impl_nodePlace.f (k : Nat) (D : List (S36)) (G : List (S56)) (s : Int) (z : Int) : Option Int := if nOk s z = true then ((impl_bsf.f k D s z).bind fun b => if b.2 = true then some b.1 else some (-1)) else some (-1)
set_option maxHeartbeats 8000000 in
set_option maxRecDepth 100000 in
theorem impl_nodePlace.calls (k : Nat) (T : Option Addr) (X : Nat) (G : List (S36)) (Y : Option Addr) (Z : Nat) (L : List (S56)) (z : Int) (D : Int) (r : Int) (w : World) (ac : Kd.C k36 w T G.length G) (ae : G.length ≤ X) (af : Kd.C k56 w Y L.length L) (ag : L.length ≤ Z) (h : impl_nodePlace.f k G L z D = some r) :
    Calls Try.prog 67 #[.agg #[.slice T G.length X, .slice Y L.length Z], .agg #[.int .i64 z, .int .i64 D]] w fun e w' => e = .returned (.int .i64 r) ∧ Below w.heap.size w w' := by
  have hu34 := Try.underlying34
  have hu36 := Try.underlying36
  have ah := am ac
  have ai := am ae
  clear ac ae af ag
  have HB := am (Below.refl w.heap.size w)
  have A1 := am (iN z D)
  unfold impl_nodePlace.f at h
  generalize nOk z D = b1 at h A1
  go_enter Try.func67, Try.ntmps67
  go_wp2_with (first | ((with_reducible refine gate_dst (N := 2) rfl ?_); refine box_event ?hg (N := 2) ?hd (cs := #[.slice T G.length X, .slice Y L.length Z]) (t := 34) ?hr ?_; (case hd => rfl); (case hg => rfl); (case hr => first | (go_simp; done) | (go_simp; rfl)); intro gb hg w2 hbox hb; have s := am (below_step HB.out hb); have J := am hbox; clear HB; have HB := s; have BG := J; clear s J hg hb hbox) | ((with_reducible refine gate_dst (N := 3) rfl ?_); refine box_event ?hg (N := 3) ?hd (cs := #[.int .i64 z, .int .i64 D]) (t := 36) ?hr ?_; (case hd => rfl); (case hg => rfl); (case hr => first | (go_simp; done) | (go_simp; rfl)); intro gn hg w3 hbox hb; have s := am (below_step HB.out hb); have J := am hbox; have O := am (blk_below BG.out hb); clear HB BG; have HB := s; have BN := J; have BG := O; clear s J O hg hb hbox; have aa : w3.cell? ⟨gn, 0, none⟩ = some (.int .i64 z) := (blk_cell BN.out 0).trans rfl; have ab : w3.cell? ⟨gn, 1, none⟩ = some (.int .i64 D) := (blk_cell BN.out 1).trans rfl))
  refine (impl_NodeOk.calls z D b1 _ A1.out).mono ?_
  rintro e w5 ⟨rfl, hb⟩
  have s := am (below_step (by repeat (first | (with_reducible first | exact HB.out | apply below_alloc | apply pw_below_drewN | apply below_drew1) | exact HB.out)) hb)
  have J := am (blk_below BN.out hb)
  have O := am (blk_below BG.out hb)
  clear HB hb BN BG aa ab
  have HB := s
  have BN := J
  have BG := O
  clear s J O
  cases b1 with
  | false =>
    obtain rfl := Option.some.inj ((if_neg (by decide)).symm.trans h)
    clear h
    go_wp2
    go_ret
    exact ⟨by first | rfl | (simp; done) | (simp [*]; done), by repeat (first | (with_reducible first | exact HB.out | apply below_alloc | apply pw_below_drewN | apply below_drew1) | exact HB.out)⟩
  | true =>
    replace h := (if_pos rfl).symm.trans h
    obtain ⟨⟨q1, q2⟩, hq, h⟩ := Option.bind_eq_some_iff.1 h
    have HQ := am hq
    clear hq
    have aa : w5.cell? ⟨gn, 0, none⟩ = some (.int .i64 z) := (blk_cell BN.out 0).trans rfl
    have ab : w5.cell? ⟨gn, 1, none⟩ = some (.int .i64 D) := (blk_cell BN.out 1).trans rfl
    have hcg0 : w5.cell? ⟨gb, 0, none⟩ = some (.slice T G.length X) := (blk_cell BG.out 0).trans rfl
    go_wp2_with fail
    refine (impl_bsf.calls k _ _ G z D q1 q2 _ ?aj ai.out HQ.out).mono ?_
    case aj => repeat (first | exact (Kd.C_below ah.out HB.out) | (with_reducible refine Kd.C_alloc ?_ _) | (with_reducible refine Kd.C_drewN ?_ _) | (with_reducible refine Kd.C_drew ?_))
    rintro e w6 ⟨rfl, hb⟩
    have s := am (below_step (by repeat (first | (with_reducible first | exact HB.out | apply below_alloc | apply pw_below_drewN | apply below_drew1) | exact HB.out)) hb)
    clear HB hb BN BG aa ab hcg0
    have HB := s
    clear s
    cases q2 with
    | true =>
      obtain rfl := Option.some.inj ((if_pos rfl).symm.trans h)
      clear h
      go_wp2
      go_ret
      exact ⟨by first | rfl | (simp; done) | (simp [*]; done), by repeat (first | (with_reducible first | exact HB.out | apply below_alloc | apply pw_below_drewN | apply below_drew1) | exact HB.out)⟩
    | false =>
      obtain rfl := Option.some.inj ((if_neg (by decide)).symm.trans h)
      clear h
      go_wp2
      go_ret
      exact ⟨by first | rfl | (simp; done) | (simp [*]; done), by repeat (first | (with_reducible first | exact HB.out | apply below_alloc | apply pw_below_drewN | apply below_drew1) | exact HB.out)⟩

end Go.Proofs.Ytohmemckdogljaa.QFnExactWalkPath
