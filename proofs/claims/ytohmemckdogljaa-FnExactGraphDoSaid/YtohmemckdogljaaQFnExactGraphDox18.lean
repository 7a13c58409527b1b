/- Contracts of the Go functions that this law reaches: each does what its plain Lean function says. No condition. -/
import Derived.Test.YtohmemckdogljaaQFnExactGraphDox0
import Derived.Test.YtohmemckdogljaaQFnExactGraphDox14
namespace Go.Proofs.Ytohmemckdogljaa.QFnExactGraphDo
open Go.RowKit Go.Proofs.YtohmemckdogljaaW.PrintWords Go.Proofs.YtohmemckdogljaaW.PrintLast Go.Proofs.YtohmemckdogljaaW.PrintMore Go.Proofs.Ytohmemckdogljaa.Bl
attribute [local go_sem] max2_int min2_int max_two min_two max_three min_three max_four min_four   -- for this text's walks alone
set_option linter.unusedVariables false
set_option linter.unusedSimpArgs false
set_option maxHeartbeats 8000000
set_option maxRecDepth 100000

/-! ### impl_Edge: function 133 -/
/-- The sign of a comparison of two edges. -/
def eO (f0 f1 f2 f3 f4 s D G I J : Int) : Int := if f0 < s then -1 else if f0 > s then 1 else if oN f1 f2 D G ≠ 0 then oN f1 f2 D G else oN f3 f4 I J
def eOx (x : S56) (s D G I J : Int) : Int := eO x.f0 x.f1.f0 x.f1.f1 x.f2.f0 x.f2.f1 s D G I J
def impl_bse.l0 : Nat → List S56 → Int → Int → Int → Int → Int → Int → Int → Option (Int × Bool)
  | 0, _, _, _, _, _, _, _, _ => none
  | k + 1, xs, a, b, c, d, e, i, j => if i < j then (if eO (rd_T56 xs ((i + j) / 2)).f0 (rd_T56 xs ((i + j) / 2)).f1.f0 (rd_T56 xs ((i + j) / 2)).f1.f1 (rd_T56 xs ((i + j) / 2)).f2.f0 (rd_T56 xs ((i + j) / 2)).f2.f1 a b c d e < 0 then impl_bse.l0 k xs a b c d e ((i + j) / 2 + 1) j else impl_bse.l0 k xs a b c d e i ((i + j) / 2)) else
    some (i, if i < (xs.length : Int) then eO (rd_T56 xs i).f0 (rd_T56 xs i).f1.f0 (rd_T56 xs i).f1.f1 (rd_T56 xs i).f2.f0 (rd_T56 xs i).f2.f1 a b c d e == 0 else false)
def impl_bse.f (k : Nat) (xs : List S56) (a b c d e : Int) : Option (Int × Bool) := impl_bse.l0 k xs a b c d e 0 xs.length
theorem eOr (x y z : Int) : cmp_Or_int.f 10 [x, y, z] = some (if x ≠ 0 then x else if y ≠ 0 then y else z) := by
  have w1 : wrap64 1 = 1 := by decide +kernel
  have s : wrap64 2 = 2 := by decide +kernel
  have D : wrap64 3 = 3 := by decide +kernel
  by_cases hx : x = 0
  · by_cases hy : y = 0
    · by_cases hz : z = 0
      · subst hx hy hz; decide +kernel
      · subst hx hy; simp [cmp_Or_int.f, cmp_Or_int.l0, rd, w1, s, D, hz]
    · subst hx; simp [cmp_Or_int.f, cmp_Or_int.l0, rd, w1, s, D, hy]
  · simp [cmp_Or_int.f, cmp_Or_int.l0, rd, w1, s, D, hx]
theorem eOk (f0 f1 f2 f3 f4 s D G I J : Int) : impl_edgeOrder.f 10 f0 f1 f2 f3 f4 s D G I J = some (eO f0 f1 f2 f3 f4 s D G I J) := by
  unfold impl_edgeOrder.f cmp_Compare_int.f cmp_isNaN_int.f eO
  simp only [iO, Option.bind_some, bne_self_eq_false, Bool.false_eq_true, if_false, eOr]
  by_cases h1 : f0 < s
  · simp [h1, eOr]
  · by_cases h2 : f0 > s
    · simp [h1, h2, eOr]
    · simp [h1, h2, eOr]
set_option maxHeartbeats 8000000 in
set_option maxRecDepth 100000 in
theorem impl_bse.calls (k : Nat) (A0 : Option Addr) (c0 : Nat) (l0 : List S56) (I J L M O : Int) (r1 : Int) (r2 : Bool) (w : World) (ah : Kd.C k56 w A0 l0.length l0) (ax : l0.length ≤ c0) (h : impl_bse.f k l0 I J L M O = some (r1, r2)) :
    Calls Try.prog 133 #[.slice A0 l0.length c0, .agg #[.int .i64 I, .int .i64 J, .int .i64 L, .int .i64 M, .int .i64 O], .func (.func 117) #[] #[]] w fun e w' => e = .returned (.tuple #[.int .i64 r1, .bool r2]) ∧ Below w.heap.size w w' := by
  have hu56 := Try.underlying56
  have ay := am ah
  have aF := am ax
  have az := am ah.2.1
  clear ah ax
  have HB := am (Below.refl w.heap.size w)
  have H' := am (show impl_bse.l0 k l0 I J L M O 0 l0.length = some (r1, r2) from h)
  clear h
  go_enter Try.func133, Try.ntmps133
  go_wp2_with (first | ((with_reducible refine gate_dst (N := 4) rfl ?_); refine box_event ?hg (N := 4) ?hd (cs := #[.int .i64 I, .int .i64 J, .int .i64 L, .int .i64 M, .int .i64 O]) (t := 56) ?hr ?_; (case hd => rfl); (case hg => rfl); (case hr => first | (go_simp; done) | (go_simp; rfl)); intro gn hg w3 hbox hb; have Y := am (below_step HB.out hb); have T := am hbox; have aA := am ((by rw [hg]; exact (below_size (by repeat (first | (with_reducible first | exact HB.out | apply below_alloc | apply pw_below_drewN | apply below_drew1) | exact HB.out))) : w.heap.size ≤ gn)); clear HB; have HB := Y; have BN := T; have GN := aA; clear Y T aA hg hb hbox))
  go_loopg [9, 10] k (fun kq v9 aB w' => ∃ (D X : Int), v9 = .int .i64 D ∧ aB = .int .i64 X ∧ Aside0 (impl_bse.l0 kq l0 I J L M O D X = some (r1, r2)) ∧ Aside0 (0 ≤ D ∧ D ≤ X ∧ X ≤ l0.length) ∧ Aside0 (kq ≤ k) ∧ Aside0 (w'.heap[gn]? = some (.cells #[.int .i64 I, .int .i64 J, .int .i64 L, .int .i64 M, .int .i64 O] 56 (0, 0))) ∧ Aside0 (Below w.heap.size w w'))
  case atStart => exact ⟨0, l0.length, (by first | rfl | (simp; done) | (simp [*]; done)), (by first | rfl | (simp; done) | (simp [*]; done)), H', ⟨by omega⟩, ⟨Nat.le_refl _⟩, ⟨by (with_reducible repeat (first | refine blk_drewN ?_ _ | refine blk_drew ?_ | refine blk_alloc ?_ _)); exact BN.out⟩, ⟨by repeat (first | (with_reducible first | exact HB.out | apply below_alloc | apply pw_below_drewN | apply below_drew1) | exact HB.out)⟩⟩
  case round =>
    clear H'
    obtain ⟨D, X, rfl, rfl, HA, HX, af, BN, HB⟩ := hrel
    cases gk with
    | zero => exact absurd HA.out (by simp [impl_bse.l0])
    | succ k1 =>
      have H := HA.out
      clear HA
      simp only [impl_bse.l0] at H
      by_cases c1 : D < X
      · rw [if_pos c1] at H
        have aC : decide (D < X) = true := decide_eq_true c1
        have hX := HX.out
        have hM := az.out
        have hh := half_u (x := D) (y := X) (by omega)
        have ag : 0 ≤ (D + X) / 2 := by omega
        have ai : (D + X) / 2 < X := by omega
        have aj : D ≤ (D + X) / 2 := by omega
        clear c1 hX hM
        go_wp2
        rw [hh]
        clear hh
        generalize (D + X) / 2 = q at H ag ai aj ⊢
        have p0 := ag
        have q0 : q < (l0.length : Int) := by have := HX.out; omega
        obtain ⟨ad, ea, Z, aa, ab, ac, ae⟩ := at_T56 ay.out q p0 q0
        cases ea
        replace Z := (HB.out.cell (World.block_lt_of_cell? w _ Z)).trans Z
        replace aa := (HB.out.cell (World.block_lt_of_cell? w _ aa)).trans aa
        replace ab := (HB.out.cell (World.block_lt_of_cell? w _ ab)).trans ab
        replace ac := (HB.out.cell (World.block_lt_of_cell? w _ ac)).trans ac
        replace ae := (HB.out.cell (World.block_lt_of_cell? w _ ae)).trans ae
        replace p0 := eq_true p0
        replace q0 := eq_true q0
        have HQ := am (show 0 ≤ q ∧ q < X ∧ D ≤ q from ⟨ag, ai, aj⟩)
        clear ag ai aj
        generalize (rd_T56 l0 q).f0 = f0 at H Z
        generalize (rd_T56 l0 q).f1.f0 = f1 at H aa
        generalize (rd_T56 l0 q).f1.f1 = f2 at H ab
        generalize (rd_T56 l0 q).f2.f0 = f3 at H ac
        generalize (rd_T56 l0 q).f2.f1 = f4 at H ae
        refine wp_region_bel (by kernel_rfl) (by kernel_rfl) ?_
        have Y := am (blk_drew BN.out)
        have T := am (below_drew1 HB.out)
        clear BN HB
        have BN := Y
        have HB := T
        clear Y T
        have hx0' : wr.drew.cell? (ad.add (q.toNat * 5)) = some (.int .i64 f0) := Z
        have hx1' : wr.drew.cell? ⟨(ad.add (q.toNat * 5)).block, (ad.add (q.toNat * 5)).off + 1, none⟩ = some (.int .i64 f1) := aa
        have hx2' : wr.drew.cell? ⟨(ad.add (q.toNat * 5)).block, (ad.add (q.toNat * 5)).off + 2, none⟩ = some (.int .i64 f2) := ab
        have hx3' : wr.drew.cell? ⟨(ad.add (q.toNat * 5)).block, (ad.add (q.toNat * 5)).off + 3, none⟩ = some (.int .i64 f3) := ac
        have hx4' : wr.drew.cell? ⟨(ad.add (q.toNat * 5)).block, (ad.add (q.toNat * 5)).off + 4, none⟩ = some (.int .i64 f4) := ae
        clear Z aa ab ac ae
        generalize wr.drew = G at BN HB hx0' hx1' hx2' hx3' hx4' ⊢
        have ak : ∀ p : Bel G, p.v.cell? (ad.add (q.toNat * 5)) = some (.int .i64 f0) := fun p => cell_bel hx0' p
        have al : ∀ p : Bel G, p.v.cell? ⟨(ad.add (q.toNat * 5)).block, (ad.add (q.toNat * 5)).off + 1, none⟩ = some (.int .i64 f1) := fun p => cell_bel hx1' p
        have an : ∀ p : Bel G, p.v.cell? ⟨(ad.add (q.toNat * 5)).block, (ad.add (q.toNat * 5)).off + 2, none⟩ = some (.int .i64 f2) := fun p => cell_bel hx2' p
        have ao : ∀ p : Bel G, p.v.cell? ⟨(ad.add (q.toNat * 5)).block, (ad.add (q.toNat * 5)).off + 3, none⟩ = some (.int .i64 f3) := fun p => cell_bel hx3' p
        have ap : ∀ p : Bel G, p.v.cell? ⟨(ad.add (q.toNat * 5)).block, (ad.add (q.toNat * 5)).off + 4, none⟩ = some (.int .i64 f4) := fun p => cell_bel hx4' p
        have aq : ∀ p : Bel G, p.v.cell? ⟨gn, 0, none⟩ = some (.int .i64 I) := fun p => cell_bel ((blk_cell BN.out 0).trans rfl) p
        have ar : ∀ p : Bel G, p.v.cell? ⟨gn, 1, none⟩ = some (.int .i64 J) := fun p => cell_bel ((blk_cell BN.out 1).trans rfl) p
        have au : ∀ p : Bel G, p.v.cell? ⟨gn, 2, none⟩ = some (.int .i64 L) := fun p => cell_bel ((blk_cell BN.out 2).trans rfl) p
        have av : ∀ p : Bel G, p.v.cell? ⟨gn, 3, none⟩ = some (.int .i64 M) := fun p => cell_bel ((blk_cell BN.out 3).trans rfl) p
        have aw : ∀ p : Bel G, p.v.cell? ⟨gn, 4, none⟩ = some (.int .i64 O) := fun p => cell_bel ((blk_cell BN.out 4).trans rfl) p
        clear hx0' hx1' hx2' hx3' hx4'
        by_cases c2 : eO f0 f1 f2 f3 f4 I J L M O < 0
        · rw [if_pos c2] at H
          have aD : decide (eO f0 f1 f2 f3 f4 I J L M O < 0) = true := decide_eq_true c2
          clear c2
          have H' := am H
          clear H
          repeat (go_big_quiet_step (with_reducible exact calls_bel (impl_edgeOrder.calls 10 f0 f1 f2 f3 f4 I J L M O _ _ (eOk f0 f1 f2 f3 f4 I J L M O))))
          refine wpQuiet_nil ?_
          intro _ hw'
          obtain ⟨⟨w6, hb⟩, hw''⟩ := hw'
          subst hw''
          clear ak al an ao ap aq ar au av aw
          have Y := am (blk_below BN.out hb)
          have T := am (below_step HB.out hb)
          clear BN HB hb
          have BN := Y
          have HB := T
          clear Y T
          go_wp2
          go_roundg k1
          case measure => have := af.out; omega
          case rel => exact ⟨q + 1, X, (by first | rfl | (simp; done) | (simp [*]; done) | (simp; unfold wrap64; have := HQ.out; have := HX.out; have := az.out; omega)), (by first | rfl | (simp; done) | (simp [*]; done)), H', ⟨by have := HQ.out; have := HX.out; omega⟩, ⟨by have := af.out; omega⟩, ⟨by (with_reducible repeat (first | refine blk_drewN ?_ _ | refine blk_drew ?_ | refine blk_alloc ?_ _)); exact BN.out⟩, ⟨by repeat (first | (with_reducible first | exact HB.out | apply below_alloc | apply pw_below_drewN | apply below_drew1) | exact HB.out)⟩⟩
        · rw [if_neg c2] at H
          have aD : decide (eO f0 f1 f2 f3 f4 I J L M O < 0) = false := decide_eq_false c2
          clear c2
          have H' := am H
          clear H
          repeat (go_big_quiet_step (with_reducible exact calls_bel (impl_edgeOrder.calls 10 f0 f1 f2 f3 f4 I J L M O _ _ (eOk f0 f1 f2 f3 f4 I J L M O))))
          refine wpQuiet_nil ?_
          intro _ hw'
          obtain ⟨⟨w6, hb⟩, hw''⟩ := hw'
          subst hw''
          clear ak al an ao ap aq ar au av aw
          have Y := am (blk_below BN.out hb)
          have T := am (below_step HB.out hb)
          clear BN HB hb
          have BN := Y
          have HB := T
          clear Y T
          go_wp2
          go_roundg k1
          case measure => have := af.out; omega
          case rel => exact ⟨D, q, (by first | rfl | (simp; done) | (simp [*]; done)), (by first | rfl | (simp; done) | (simp [*]; done)), H', ⟨by have := HQ.out; have := HX.out; omega⟩, ⟨by have := af.out; omega⟩, ⟨by (with_reducible repeat (first | refine blk_drewN ?_ _ | refine blk_drew ?_ | refine blk_alloc ?_ _)); exact BN.out⟩, ⟨by repeat (first | (with_reducible first | exact HB.out | apply below_alloc | apply pw_below_drewN | apply below_drew1) | exact HB.out)⟩⟩
      · rw [if_neg c1] at H
        have aC : decide (D < X) = false := decide_eq_false c1
        clear c1
        by_cases c3 : D < (l0.length : Int)
        · rw [if_pos c3] at H
          have aE : decide (D < (l0.length : Int)) = true := decide_eq_true c3
          have p0 : 0 ≤ D := HX.out.1
          have q0 : D < (l0.length : Int) := c3
          obtain ⟨ad, ea, Z, aa, ab, ac, ae⟩ := at_T56 ay.out D p0 q0
          cases ea
          replace Z := (HB.out.cell (World.block_lt_of_cell? w _ Z)).trans Z
          replace aa := (HB.out.cell (World.block_lt_of_cell? w _ aa)).trans aa
          replace ab := (HB.out.cell (World.block_lt_of_cell? w _ ab)).trans ab
          replace ac := (HB.out.cell (World.block_lt_of_cell? w _ ac)).trans ac
          replace ae := (HB.out.cell (World.block_lt_of_cell? w _ ae)).trans ae
          replace p0 := eq_true p0
          replace q0 := eq_true q0
          clear c3
          generalize (rd_T56 l0 D).f0 = f0 at H Z
          generalize (rd_T56 l0 D).f1.f0 = f1 at H aa
          generalize (rd_T56 l0 D).f1.f1 = f2 at H ab
          generalize (rd_T56 l0 D).f2.f0 = f3 at H ac
          generalize (rd_T56 l0 D).f2.f1 = f4 at H ae
          simp only [Option.some.injEq, Prod.mk.injEq] at H
          obtain ⟨rfl, rfl⟩ := H
          go_wp2
          refine wp_region_bel (by kernel_rfl) (by kernel_rfl) ?_
          have Y := am (blk_drew BN.out)
          have T := am (below_drew1 HB.out)
          clear BN HB
          have BN := Y
          have HB := T
          clear Y T
          have hx0' : wr.drew.cell? (ad.add (D.toNat * 5)) = some (.int .i64 f0) := Z
          have hx1' : wr.drew.cell? ⟨(ad.add (D.toNat * 5)).block, (ad.add (D.toNat * 5)).off + 1, none⟩ = some (.int .i64 f1) := aa
          have hx2' : wr.drew.cell? ⟨(ad.add (D.toNat * 5)).block, (ad.add (D.toNat * 5)).off + 2, none⟩ = some (.int .i64 f2) := ab
          have hx3' : wr.drew.cell? ⟨(ad.add (D.toNat * 5)).block, (ad.add (D.toNat * 5)).off + 3, none⟩ = some (.int .i64 f3) := ac
          have hx4' : wr.drew.cell? ⟨(ad.add (D.toNat * 5)).block, (ad.add (D.toNat * 5)).off + 4, none⟩ = some (.int .i64 f4) := ae
          clear Z aa ab ac ae
          generalize wr.drew = G at BN HB hx0' hx1' hx2' hx3' hx4' ⊢
          have ak : ∀ p : Bel G, p.v.cell? (ad.add (D.toNat * 5)) = some (.int .i64 f0) := fun p => cell_bel hx0' p
          have al : ∀ p : Bel G, p.v.cell? ⟨(ad.add (D.toNat * 5)).block, (ad.add (D.toNat * 5)).off + 1, none⟩ = some (.int .i64 f1) := fun p => cell_bel hx1' p
          have an : ∀ p : Bel G, p.v.cell? ⟨(ad.add (D.toNat * 5)).block, (ad.add (D.toNat * 5)).off + 2, none⟩ = some (.int .i64 f2) := fun p => cell_bel hx2' p
          have ao : ∀ p : Bel G, p.v.cell? ⟨(ad.add (D.toNat * 5)).block, (ad.add (D.toNat * 5)).off + 3, none⟩ = some (.int .i64 f3) := fun p => cell_bel hx3' p
          have ap : ∀ p : Bel G, p.v.cell? ⟨(ad.add (D.toNat * 5)).block, (ad.add (D.toNat * 5)).off + 4, none⟩ = some (.int .i64 f4) := fun p => cell_bel hx4' p
          have aq : ∀ p : Bel G, p.v.cell? ⟨gn, 0, none⟩ = some (.int .i64 I) := fun p => cell_bel ((blk_cell BN.out 0).trans rfl) p
          have ar : ∀ p : Bel G, p.v.cell? ⟨gn, 1, none⟩ = some (.int .i64 J) := fun p => cell_bel ((blk_cell BN.out 1).trans rfl) p
          have au : ∀ p : Bel G, p.v.cell? ⟨gn, 2, none⟩ = some (.int .i64 L) := fun p => cell_bel ((blk_cell BN.out 2).trans rfl) p
          have av : ∀ p : Bel G, p.v.cell? ⟨gn, 3, none⟩ = some (.int .i64 M) := fun p => cell_bel ((blk_cell BN.out 3).trans rfl) p
          have aw : ∀ p : Bel G, p.v.cell? ⟨gn, 4, none⟩ = some (.int .i64 O) := fun p => cell_bel ((blk_cell BN.out 4).trans rfl) p
          clear hx0' hx1' hx2' hx3' hx4'
          repeat (go_big_quiet_step (with_reducible exact calls_bel (impl_edgeOrder.calls 10 f0 f1 f2 f3 f4 I J L M O _ _ (eOk f0 f1 f2 f3 f4 I J L M O))))
          refine wpQuiet_nil ?_
          intro _ hw'
          obtain ⟨⟨w6, hb⟩, hw''⟩ := hw'
          subst hw''
          go_wp2
          go_ret2
          exact ⟨by first | rfl | (simp; done) | (simp [*]; done), below_step HB.out hb⟩
        · rw [if_neg c3] at H
          simp only [Option.some.injEq, Prod.mk.injEq] at H
          obtain ⟨rfl, rfl⟩ := H
          have aE : decide (D < (l0.length : Int)) = false := decide_eq_false c3
          clear c3
          go_wp2
          refine wp_region_bel (by kernel_rfl) (by kernel_rfl) ?_
          have T := am (below_drew1 HB.out)
          clear HB
          have HB := T
          clear T
          generalize wr.drew = G at HB ⊢
          repeat (go_big_quiet_step (fail))
          refine wpQuiet_nil ?_
          intro _ hw'
          obtain ⟨⟨w6, hb⟩, hw''⟩ := hw'
          subst hw''
          go_wp2
          go_ret2
          exact ⟨by first | rfl | (simp; done) | (simp [*]; done), below_step HB.out hb⟩

end Go.Proofs.Ytohmemckdogljaa.QFnExactGraphDo
