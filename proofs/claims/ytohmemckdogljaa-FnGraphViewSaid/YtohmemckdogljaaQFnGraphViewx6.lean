/- Contracts of the Go functions that this law reaches: each does what its plain Lean function says. No condition. -/
import Derived.Test.YtohmemckdogljaaQFnGraphViewx0
import Derived.Test.YtohmemckdogljaaQFnGraphViewx5
namespace Go.Proofs.Ytohmemckdogljaa.QFnGraphView
open Go.RowKit Go.Proofs.YtohmemckdogljaaW.PrintWords Go.Proofs.YtohmemckdogljaaW.PrintLast Go.Proofs.YtohmemckdogljaaW.PrintMore Go.Proofs.Ytohmemckdogljaa.Bl
attribute [local go_sem] max2_int min2_int max_two min_two max_three min_three max_four min_four   -- for this text's walks alone
set_option linter.unusedVariables false
set_option linter.unusedSimpArgs false
set_option maxHeartbeats 8000000
set_option maxRecDepth 100000

/-! ### impl_Node_110: function 110 -/
/-- The sign of a comparison of two nodes. -/
def oN (a b c d : Int) : Int := if Cd a b < Cd c d then -1 else if Cd a b > Cd c d then 1 else 0
theorem iO (a b c d : Int) : impl_nodeOrder.f a b c d = some (oN a b c d) := by
  unfold impl_nodeOrder.f cmp_Compare_int.f cmp_isNaN_int.f oN
  simp only [iC, Option.bind_some, bne_self_eq_false, Bool.false_eq_true, if_false]
  split
  · rfl
  · split <;> rfl
theorem half_u {x y : Int} (h : 0 ≤ x ∧ 0 ≤ y ∧ x ≤ 9223372036854775807 ∧ y ≤ 9223372036854775807) : wrap64 (IntKind.u64.wrap (wrap64 (x + y)) / 2) = (x + y) / 2 := by
  have e : IntKind.u64.wrap (wrap64 (x + y)) = x + y := by
    simp only [IntKind.wrap, IntKind.signed, IntKind.bits, wrap64]
    simp
    omega
  rw [e]; unfold wrap64; omega
def impl_bsf.l0 : Nat → List S36 → Int → Int → Int → Int → Option (Int × Bool)
  | 0, _, _, _, _, _ => none
  | k + 1, xs, a, b, i, j => if i < j then (if oN (rd_T36 xs ((i + j) / 2)).f0 (rd_T36 xs ((i + j) / 2)).f1 a b < 0 then impl_bsf.l0 k xs a b ((i + j) / 2 + 1) j else impl_bsf.l0 k xs a b i ((i + j) / 2)) else
    some (i, if i < (xs.length : Int) then oN (rd_T36 xs i).f0 (rd_T36 xs i).f1 a b == 0 else false)
def impl_bsf.f (k : Nat) (xs : List S36) (a b : Int) : Option (Int × Bool) := impl_bsf.l0 k xs a b 0 xs.length
set_option maxHeartbeats 8000000 in
set_option maxRecDepth 100000 in
theorem impl_bsf.calls (k : Nat) (A0 : Option Addr) (c0 : Nat) (l0 : List S36) (a1_0 a1_1 : Int) (r1 : Int) (r2 : Bool) (w : World) (hr0 : Kd.C k36 w A0 l0.length l0) (hc0 : l0.length ≤ c0) (h : impl_bsf.f k l0 a1_0 a1_1 = some (r1, r2)) :
    Calls Try.prog 110 #[.slice A0 l0.length c0, .agg #[.int .i64 a1_0, .int .i64 a1_1], .func (.func 105) #[] #[]] w fun e w' => e = .returned (.tuple #[.int .i64 r1, .bool r2]) ∧ Below w.heap.size w w' := by
  have hu36 := Try.underlying36
  have HR0 := Aside0.mk hr0
  have HC0 := Aside0.mk hc0
  have HM0 := Aside0.mk hr0.2.1
  clear hr0 hc0
  have HB := Aside0.mk (Below.refl w.heap.size w)
  have H' := Aside0.mk (show impl_bsf.l0 k l0 a1_0 a1_1 0 l0.length = some (r1, r2) from h)
  clear h
  go_enter Try.func110, Try.ntmps110
  go_wp2_with (first | ((with_reducible refine gate_dst (N := 4) rfl ?_); refine box_event ?hg (N := 4) ?hd (cs := #[.int .i64 a1_0, .int .i64 a1_1]) (t := 36) ?hr ?_; (case hd => rfl); (case hg => rfl); (case hr => first | (go_simp; done) | (go_simp; rfl)); intro gn hg w3 hbox hb; have n0_ := Aside0.mk (below_step HB.out hb); have n1_ := Aside0.mk hbox; have n2_ := Aside0.mk ((by rw [hg]; exact (below_size (by repeat (first | (with_reducible first | exact HB.out | apply below_alloc | apply pw_below_drewN | apply below_drew1) | exact HB.out))) : w.heap.size ≤ gn)); clear HB; have HB := n0_; have BN := n1_; have GN := n2_; clear n0_ n1_ n2_ hg hb hbox))
  go_loopg [9, 10] k (fun kq v9 v10 w' => ∃ (x9 x10 : Int), v9 = .int .i64 x9 ∧ v10 = .int .i64 x10 ∧ Aside0 (impl_bsf.l0 kq l0 a1_0 a1_1 x9 x10 = some (r1, r2)) ∧ Aside0 (0 ≤ x9 ∧ x9 ≤ x10 ∧ x10 ≤ l0.length) ∧ Aside0 (kq ≤ k) ∧ Aside0 (w'.heap[gn]? = some (.cells #[.int .i64 a1_0, .int .i64 a1_1] 36 (0, 0))) ∧ Aside0 (Below w.heap.size w w'))
  case atStart => exact ⟨0, l0.length, (by first | rfl | (simp; done) | (simp [*]; done)), (by first | rfl | (simp; done) | (simp [*]; done)), H', ⟨by omega⟩, ⟨Nat.le_refl _⟩, ⟨by (with_reducible repeat (first | refine blk_drewN ?_ _ | refine blk_drew ?_ | refine blk_alloc ?_ _)); exact BN.out⟩, ⟨by repeat (first | (with_reducible first | exact HB.out | apply below_alloc | apply pw_below_drewN | apply below_drew1) | exact HB.out)⟩⟩
  case round =>
    clear H'
    obtain ⟨x9, x10, rfl, rfl, HA, HX, HK1, BN, HB⟩ := hrel
    cases gk with
    | zero => exact absurd HA.out (by simp [impl_bsf.l0])
    | succ k1 =>
      have H := HA.out
      clear HA
      simp only [impl_bsf.l0] at H
      by_cases c1 : x9 < x10
      · rw [if_pos c1] at H
        have c1b0 : decide (x9 < x10) = true := decide_eq_true c1
        have hX := HX.out
        have hM := HM0.out
        have hh := half_u (x := x9) (y := x10) (by omega)
        have hq0 : 0 ≤ (x9 + x10) / 2 := by omega
        have hq1 : (x9 + x10) / 2 < x10 := by omega
        have hq2 : x9 ≤ (x9 + x10) / 2 := by omega
        clear c1 hX hM
        go_wp2
        rw [hh]
        clear hh
        generalize (x9 + x10) / 2 = q at H hq0 hq1 hq2 ⊢
        have p0 := hq0
        have q0 : q < (l0.length : Int) := by have := HX.out; omega
        obtain ⟨ad, ea, hx0, hx1⟩ := at_T36 HR0.out q p0 q0
        cases ea
        replace hx0 := (HB.out.cell (World.block_lt_of_cell? w _ hx0)).trans hx0
        replace hx1 := (HB.out.cell (World.block_lt_of_cell? w _ hx1)).trans hx1
        replace p0 := eq_true p0
        replace q0 := eq_true q0
        have HQ := Aside0.mk (show 0 ≤ q ∧ q < x10 ∧ x9 ≤ q from ⟨hq0, hq1, hq2⟩)
        clear hq0 hq1 hq2
        generalize (rd_T36 l0 q).f0 = f0 at H hx0 hx1
        generalize (rd_T36 l0 q).f1 = f1 at H hx0 hx1
        refine wp_region_bel (by kernel_rfl) (by kernel_rfl) ?_
        have n0_ := Aside0.mk (blk_drew BN.out)
        have n1_ := Aside0.mk (below_drew1 HB.out)
        clear BN HB
        have BN := n0_
        have HB := n1_
        clear n0_ n1_
        have hx0' : wr.drew.cell? (ad.add (q.toNat * 2)) = some (.int .i64 f0) := hx0
        have hx1' : wr.drew.cell? ⟨(ad.add (q.toNat * 2)).block, (ad.add (q.toNat * 2)).off + 1, none⟩ = some (.int .i64 f1) := hx1
        clear hx0 hx1
        generalize wr.drew = w5 at BN HB hx0' hx1' ⊢
        have hz0 : ∀ p : Bel w5, p.v.cell? (ad.add (q.toNat * 2)) = some (.int .i64 f0) := fun p => cell_bel hx0' p
        have hz1 : ∀ p : Bel w5, p.v.cell? ⟨(ad.add (q.toNat * 2)).block, (ad.add (q.toNat * 2)).off + 1, none⟩ = some (.int .i64 f1) := fun p => cell_bel hx1' p
        have hz2 : ∀ p : Bel w5, p.v.cell? ⟨gn, 0, none⟩ = some (.int .i64 a1_0) := fun p => cell_bel ((blk_cell BN.out 0).trans rfl) p
        have hz3 : ∀ p : Bel w5, p.v.cell? ⟨gn, 1, none⟩ = some (.int .i64 a1_1) := fun p => cell_bel ((blk_cell BN.out 1).trans rfl) p
        clear hx0' hx1'
        by_cases c2 : oN f0 f1 a1_0 a1_1 < 0
        · rw [if_pos c2] at H
          have c2b0 : decide (oN f0 f1 a1_0 a1_1 < 0) = true := decide_eq_true c2
          clear c2
          have H' := Aside0.mk H
          clear H
          repeat (go_big_quiet_step (with_reducible exact calls_bel (impl_nodeOrder.calls f0 f1 a1_0 a1_1 _ _ (iO f0 f1 a1_0 a1_1))))
          refine wpQuiet_nil ?_
          intro _ hw'
          obtain ⟨⟨w6, hb⟩, hw''⟩ := hw'
          subst hw''
          clear hz0 hz1 hz2 hz3
          have n0_ := Aside0.mk (blk_below BN.out hb)
          have n1_ := Aside0.mk (below_step HB.out hb)
          clear BN HB hb
          have BN := n0_
          have HB := n1_
          clear n0_ n1_
          go_wp2
          go_roundg k1
          case measure => have := HK1.out; omega
          case rel => exact ⟨q + 1, x10, (by first | rfl | (simp; done) | (simp [*]; done) | (simp; unfold wrap64; have := HQ.out; have := HX.out; have := HM0.out; omega)), (by first | rfl | (simp; done) | (simp [*]; done)), H', ⟨by have := HQ.out; have := HX.out; omega⟩, ⟨by have := HK1.out; omega⟩, ⟨by (with_reducible repeat (first | refine blk_drewN ?_ _ | refine blk_drew ?_ | refine blk_alloc ?_ _)); exact BN.out⟩, ⟨by repeat (first | (with_reducible first | exact HB.out | apply below_alloc | apply pw_below_drewN | apply below_drew1) | exact HB.out)⟩⟩
        · rw [if_neg c2] at H
          have c2b0 : decide (oN f0 f1 a1_0 a1_1 < 0) = false := decide_eq_false c2
          clear c2
          have H' := Aside0.mk H
          clear H
          repeat (go_big_quiet_step (with_reducible exact calls_bel (impl_nodeOrder.calls f0 f1 a1_0 a1_1 _ _ (iO f0 f1 a1_0 a1_1))))
          refine wpQuiet_nil ?_
          intro _ hw'
          obtain ⟨⟨w6, hb⟩, hw''⟩ := hw'
          subst hw''
          clear hz0 hz1 hz2 hz3
          have n0_ := Aside0.mk (blk_below BN.out hb)
          have n1_ := Aside0.mk (below_step HB.out hb)
          clear BN HB hb
          have BN := n0_
          have HB := n1_
          clear n0_ n1_
          go_wp2
          go_roundg k1
          case measure => have := HK1.out; omega
          case rel => exact ⟨x9, q, (by first | rfl | (simp; done) | (simp [*]; done)), (by first | rfl | (simp; done) | (simp [*]; done)), H', ⟨by have := HQ.out; have := HX.out; omega⟩, ⟨by have := HK1.out; omega⟩, ⟨by (with_reducible repeat (first | refine blk_drewN ?_ _ | refine blk_drew ?_ | refine blk_alloc ?_ _)); exact BN.out⟩, ⟨by repeat (first | (with_reducible first | exact HB.out | apply below_alloc | apply pw_below_drewN | apply below_drew1) | exact HB.out)⟩⟩
      · rw [if_neg c1] at H
        have c1b0 : decide (x9 < x10) = false := decide_eq_false c1
        clear c1
        by_cases c3 : x9 < (l0.length : Int)
        · rw [if_pos c3] at H
          have c3b0 : decide (x9 < (l0.length : Int)) = true := decide_eq_true c3
          have p0 : 0 ≤ x9 := HX.out.1
          have q0 : x9 < (l0.length : Int) := c3
          obtain ⟨ad, ea, hx0, hx1⟩ := at_T36 HR0.out x9 p0 q0
          cases ea
          replace hx0 := (HB.out.cell (World.block_lt_of_cell? w _ hx0)).trans hx0
          replace hx1 := (HB.out.cell (World.block_lt_of_cell? w _ hx1)).trans hx1
          replace p0 := eq_true p0
          replace q0 := eq_true q0
          clear c3
          generalize (rd_T36 l0 x9).f0 = f0 at H hx0 hx1
          generalize (rd_T36 l0 x9).f1 = f1 at H hx0 hx1
          simp only [Option.some.injEq, Prod.mk.injEq] at H
          obtain ⟨rfl, rfl⟩ := H
          go_wp2
          refine wp_region_bel (by kernel_rfl) (by kernel_rfl) ?_
          have n0_ := Aside0.mk (blk_drew BN.out)
          have n1_ := Aside0.mk (below_drew1 HB.out)
          clear BN HB
          have BN := n0_
          have HB := n1_
          clear n0_ n1_
          have hx0' : wr.drew.cell? (ad.add (x9.toNat * 2)) = some (.int .i64 f0) := hx0
          have hx1' : wr.drew.cell? ⟨(ad.add (x9.toNat * 2)).block, (ad.add (x9.toNat * 2)).off + 1, none⟩ = some (.int .i64 f1) := hx1
          clear hx0 hx1
          generalize wr.drew = w5 at BN HB hx0' hx1' ⊢
          have hz0 : ∀ p : Bel w5, p.v.cell? (ad.add (x9.toNat * 2)) = some (.int .i64 f0) := fun p => cell_bel hx0' p
          have hz1 : ∀ p : Bel w5, p.v.cell? ⟨(ad.add (x9.toNat * 2)).block, (ad.add (x9.toNat * 2)).off + 1, none⟩ = some (.int .i64 f1) := fun p => cell_bel hx1' p
          have hz2 : ∀ p : Bel w5, p.v.cell? ⟨gn, 0, none⟩ = some (.int .i64 a1_0) := fun p => cell_bel ((blk_cell BN.out 0).trans rfl) p
          have hz3 : ∀ p : Bel w5, p.v.cell? ⟨gn, 1, none⟩ = some (.int .i64 a1_1) := fun p => cell_bel ((blk_cell BN.out 1).trans rfl) p
          clear hx0' hx1'
          repeat (go_big_quiet_step (with_reducible exact calls_bel (impl_nodeOrder.calls f0 f1 a1_0 a1_1 _ _ (iO f0 f1 a1_0 a1_1))))
          refine wpQuiet_nil ?_
          intro _ hw'
          obtain ⟨⟨w6, hb⟩, hw''⟩ := hw'
          subst hw''
          go_wp2
          go_ret2
          exact ⟨by first | rfl | (simp; done) | (simp [*]; done), below_step HB.out hb⟩
        · rw [if_neg c3] at H
          simp only [Option.some.injEq, Prod.mk.injEq] at H
          obtain ⟨rfl, rfl⟩ := H
          have c3b0 : decide (x9 < (l0.length : Int)) = false := decide_eq_false c3
          clear c3
          go_wp2
          refine wp_region_bel (by kernel_rfl) (by kernel_rfl) ?_
          have n1_ := Aside0.mk (below_drew1 HB.out)
          clear HB
          have HB := n1_
          clear n1_
          generalize wr.drew = w5 at HB ⊢
          repeat (go_big_quiet_step (fail))
          refine wpQuiet_nil ?_
          intro _ hw'
          obtain ⟨⟨w6, hb⟩, hw''⟩ := hw'
          subst hw''
          go_wp2
          go_ret2
          exact ⟨by first | rfl | (simp; done) | (simp [*]; done), below_step HB.out hb⟩

/-! ### impl_nodeThere: function 118 -/
def impl_nodeThere.f (k : Nat) (l0 : List S36) (a1_0 a1_1 : Int) : Option Bool := (impl_bsf.f k l0 a1_0 a1_1).bind fun b => some b.2
set_option maxHeartbeats 8000000 in
set_option maxRecDepth 100000 in
theorem impl_nodeThere.calls (k : Nat) (A0 : Option Addr) (c0 : Nat) (l0 : List S36) (a1_0 a1_1 : Int) (r : Bool) (w : World) (hr0 : Kd.C k36 w A0 l0.length l0) (hc0 : l0.length ≤ c0) (h : impl_nodeThere.f k l0 a1_0 a1_1 = some r) :
    Calls Try.prog 118 #[.slice A0 l0.length c0, .agg #[.int .i64 a1_0, .int .i64 a1_1]] w fun e w' => e = .returned (.bool r) ∧ Below w.heap.size w w' := by
  have hu36 := Try.underlying36
  have HR0 := Aside0.mk hr0
  have HC0 := Aside0.mk hc0
  clear hr0 hc0
  have HB := Aside0.mk (Below.refl w.heap.size w)
  obtain ⟨⟨q1, q2⟩, hq, h⟩ := Option.bind_eq_some_iff.1 h
  obtain rfl := Option.some.inj h
  have HQ := Aside0.mk hq
  clear hq h
  go_enter Try.func118, Try.ntmps118
  go_wp2_with (first | ((with_reducible refine gate_dst (N := 3) rfl ?_); refine box_event ?hg (N := 3) ?hd (cs := #[.int .i64 a1_0, .int .i64 a1_1]) (t := 36) ?hr ?_; (case hd => rfl); (case hg => rfl); (case hr => first | (go_simp; done) | (go_simp; rfl)); intro gn hg w3 hbox hb; have n0_ := Aside0.mk (below_step HB.out hb); have n1_ := Aside0.mk hbox; clear HB; have HB := n0_; have BN := n1_; clear n0_ n1_ hg hb hbox; have hcz0 : w3.cell? ⟨gn, 0, none⟩ = some (.int .i64 a1_0) := (blk_cell BN.out 0).trans rfl; have hcz1 : w3.cell? ⟨gn, 1, none⟩ = some (.int .i64 a1_1) := (blk_cell BN.out 1).trans rfl))
  refine (impl_bsf.calls k _ _ l0 a1_0 a1_1 q1 q2 _ ?side1 HC0.out HQ.out).mono ?_
  case side1 => repeat (first | exact (Kd.C_below HR0.out HB.out) | (with_reducible refine Kd.C_alloc ?_ _) | (with_reducible refine Kd.C_drewN ?_ _) | (with_reducible refine Kd.C_drew ?_))
  rintro e w5 ⟨rfl, hb⟩
  have n0_ := Aside0.mk (below_step (by repeat (first | (with_reducible first | exact HB.out | apply below_alloc | apply pw_below_drewN | apply below_drew1) | exact HB.out)) hb)
  clear HB hb BN hcz0 hcz1
  have HB := n0_
  clear n0_
  go_wp2
  go_ret
  exact ⟨by first | rfl | (simp; done) | (simp [*]; done), by repeat (first | (with_reducible first | exact HB.out | apply below_alloc | apply pw_below_drewN | apply below_drew1) | exact HB.out)⟩

/-! ### impl_edgesOk: function 82 -/
def impl_edgesOk.l0 : Nat → List S56 → List S36 → List Int → Int → Option Bool
 | 0, _, _, _, _ => none
 | k + 1, es, ns, m, i => if i < (es.length : Int) then (if 0 ≤ i then (if EOk (rd_T56 es i).f0 (rd_T56 es i).f1.f0 (rd_T56 es i).f1.f1 (rd_T56 es i).f2.f0 (rd_T56 es i).f2.f1 = true then (if rd m (rd_T56 es i).f0 = 7 then some false else (if i > 0 then (if 0 ≤ wrap64 (i - 1) then (if wrap64 (i - 1) < (es.length : Int) then (impl_edgeOrder.f k (rd_T56 es (wrap64 (i - 1))).f0 (rd_T56 es (wrap64 (i - 1))).f1.f0 (rd_T56 es (wrap64 (i - 1))).f1.f1 (rd_T56 es (wrap64 (i - 1))).f2.f0 (rd_T56 es (wrap64 (i - 1))).f2.f1 (rd_T56 es i).f0 (rd_T56 es i).f1.f0 (rd_T56 es i).f1.f1 (rd_T56 es i).f2.f0 (rd_T56 es i).f2.f1).bind fun t => if t ≥ 0 then some false else ((impl_nodeThere.f k ns (rd_T56 es i).f1.f0 (rd_T56 es i).f1.f1).bind fun t1 => if t1 = true then (impl_nodeThere.f k ns (rd_T56 es i).f2.f0 (rd_T56 es i).f2.f1).bind fun t2 => if t2 = true then impl_edgesOk.l0 k es ns (m.set ((rd_T56 es i).f0).toNat (wrap64 (rd m (rd_T56 es i).f0 + 1))) (wrap64 (i + 1)) else some false else some false) else none) else none) else ((impl_nodeThere.f k ns (rd_T56 es i).f1.f0 (rd_T56 es i).f1.f1).bind fun t1 => if t1 = true then (impl_nodeThere.f k ns (rd_T56 es i).f2.f0 (rd_T56 es i).f2.f1).bind fun t2 => if t2 = true then impl_edgesOk.l0 k es ns (m.set ((rd_T56 es i).f0).toNat (wrap64 (rd m (rd_T56 es i).f0 + 1))) (wrap64 (i + 1)) else some false else some false))) else some false) else none) else some true
def impl_edgesOk.f (k : Nat) (l0 : List S56) (l1 : List S36) : Option Bool := impl_edgesOk.l0 k l0 l1 [0, 0, 0, 0, 0, 0, 0, 0] 0
theorem impl_edgesOk.calls (k : Nat) (A0 : Option Addr) (c0 : Nat) (l0 : List S56) (A1 : Option Addr) (c1 : Nat) (l1 : List S36) (r : Bool) (w : World) (hr0 : Kd.C k56 w A0 l0.length l0) (hc0 : l0.length ≤ c0) (hr1 : Kd.C k36 w A1 l1.length l1) (hc1 : l1.length ≤ c1) (h : impl_edgesOk.f k l0 l1 = some r) :
  Calls Try.prog 82 #[.slice A0 l0.length c0, .slice A1 l1.length c1] w fun e w' => e = .returned (.bool r) ∧ Below w.heap.size w w' := by
 have hu36 := Try.underlying36
 have hu56 := Try.underlying56
 have hu122 := Try.underlying122
 have HR0 := Aside0.mk hr0
 have HC0 := Aside0.mk hc0
 have HR1 := Aside0.mk hr1
 have HC1 := Aside0.mk hc1
 clear hr0 hc0 hr1 hc1
 have HB := Aside0.mk (Below.refl w.heap.size w)
 have H' := Aside0.mk (show impl_edgesOk.l0 k l0 l1 [0, 0, 0, 0, 0, 0, 0, 0] 0 = some r from h)
 clear h
 go_enter Try.func82, Try.ntmps82
 go_wp2_with (first | ((with_reducible refine gd 5 rfl ?_); refine bx 5 (cs := cts [0, 0, 0, 0, 0, 0, 0, 0]) (t := 122) ?_; intro gb hg w3 hbox hb; have BK := Aside0.mk hbox; have GE := Ge.mk ((by rw [hg]; exact (below_size (bs HB.out)) : w.heap.size ≤ gb)); replace HB := Aside0.mk (below_step HB.out hb); clear hg hb hbox))
 go_loopg [10] k (fun kq v10 w' => ∃ (x10 : Int) (m : List Int), v10 = .int .i64 x10 ∧ Aside0 (impl_edgesOk.l0 kq l0 l1 m x10 = some r) ∧ Aside0 (m.length = 8) ∧ Aside0 (kq ≤ k) ∧ Aside0 (w'.heap[gb]? = some (.cells (cts m) 122 (0, 0))) ∧ Aside0 (Below w.heap.size w w'))
 case atStart => exact ⟨0, [0, 0, 0, 0, 0, 0, 0, 0], eqs, H', ⟨rfl⟩, ⟨Nat.le_refl _⟩, ⟨bf BK.out⟩, ⟨bs HB.out⟩⟩
 case round =>
  clear H'
  obtain ⟨x10, m, rfl, HA, HM, HK1, BK, HB⟩ := hrel
  cases gk with
  | zero => exact absurd HA.out (by simp [impl_edgesOk.l0])
  | succ k1 =>
   have H := HA.out
   clear HA
   simp only [impl_edgesOk.l0] at H
   by_cases c1 : x10 < (l0.length : Int)
   ·rw [if_pos c1] at H
    have c1b0 : decide (x10 < (l0.length : Int)) = true := decide_eq_true c1
    by_cases c2 : 0 ≤ x10
    ·rw [if_pos c2] at H
     have p0 := c2
     have q0 := c1
     obtain ⟨ad, ea, hx0, hx1, hx2, hx3, hx4⟩ := at_T56 HR0.out x10 p0 q0
     cases ea
     have CX := Aside0.mk (show 0 ≤ x10 ∧ x10 < (l0.length : Int) from ⟨c2, c1⟩)
     replace hx0 := cb HB hx0
     replace hx1 := cb HB hx1
     replace hx2 := cb HB hx2
     replace hx3 := cb HB hx3
     replace hx4 := cb HB hx4
     replace p0 := eq_true p0
     replace q0 := eq_true q0
     clear c1 c2
     generalize (rd_T56 l0 x10).f0 = e0 at H hx0 hx1 hx2 hx3 hx4
     generalize (rd_T56 l0 x10).f1.f0 = e1 at H hx0 hx1 hx2 hx3 hx4
     generalize (rd_T56 l0 x10).f1.f1 = e2 at H hx0 hx1 hx2 hx3 hx4
     generalize (rd_T56 l0 x10).f2.f0 = e3 at H hx0 hx1 hx2 hx3 hx4
     generalize (rd_T56 l0 x10).f2.f1 = e4 at H hx0 hx1 hx2 hx3 hx4
     go_wp2_with (first | ((with_reducible refine gd 7 rfl ?_); refine bx 7 (cs := #[.int .i64 0, .int .i64 0, .int .i64 0, .int .i64 0, .int .i64 0]) (t := 56) ?_; intro gn hg w5 hbox hb; have BN := Aside0.mk hbox; have GN := Aside0.mk ((by rw [hg]; exact (below_size (bs HB.out)) : w.heap.size ≤ gn)); replace HB := hs HB hb; have NE := Aside0.mk ((by rw [hg]; exact Nat.ne_of_lt (blk_lt (g := gb) (bf BK.out)) : gb ≠ gn)); replace BK := Aside0.mk (blk_below (g := gb) (bf BK.out) hb); clear hb hbox hg; have hcz0 : w5.cell? ⟨gn, 0, none⟩ = some (.int .i64 0) := (blk_cell BN.out 0).trans rfl; have hcz1 : w5.cell? ⟨gn, 1, none⟩ = some (.int .i64 0) := (blk_cell BN.out 1).trans rfl; have hcz2 : w5.cell? ⟨gn, 2, none⟩ = some (.int .i64 0) := (blk_cell BN.out 2).trans rfl; have hcz3 : w5.cell? ⟨gn, 3, none⟩ = some (.int .i64 0) := (blk_cell BN.out 3).trans rfl; have hcz4 : w5.cell? ⟨gn, 4, none⟩ = some (.int .i64 0) := (blk_cell BN.out 4).trans rfl; have hfz0 := blk_frozen BN.out 0; have hfz1 := blk_frozen BN.out 1; have hfz2 := blk_frozen BN.out 2; have hfz3 := blk_frozen BN.out 3; have hfz4 := blk_frozen BN.out 4))
     have n0_ := Aside0.mk (blk_far (blk_far (blk_far (blk_far (blk_far (BK.out) (p := ⟨gn, 0, none⟩) NE.out (.int .i64 e0)) (p := ⟨gn, 1, none⟩) NE.out (.int .i64 e1)) (p := ⟨gn, 2, none⟩) NE.out (.int .i64 e2)) (p := ⟨gn, 3, none⟩) NE.out (.int .i64 e3)) (p := ⟨gn, 4, none⟩) NE.out (.int .i64 e4))
     have n1_ := Aside0.mk (blk_put (cs' := #[.int .i64 e0, .int .i64 e1, .int .i64 e2, .int .i64 e3, .int .i64 e4]) (blk_put (cs' := #[.int .i64 e0, .int .i64 e1, .int .i64 e2, .int .i64 e3, .int .i64 0]) (blk_put (cs' := #[.int .i64 e0, .int .i64 e1, .int .i64 e2, .int .i64 0, .int .i64 0]) (blk_put (cs' := #[.int .i64 e0, .int .i64 e1, .int .i64 0, .int .i64 0, .int .i64 0]) (blk_put (cs' := #[.int .i64 e0, .int .i64 0, .int .i64 0, .int .i64 0, .int .i64 0]) (BN.out) 0 (.int .i64 e0) rfl) 1 (.int .i64 e1) rfl) 2 (.int .i64 e2) rfl) 3 (.int .i64 e3) rfl) 4 (.int .i64 e4) rfl)
     have n2_ := Aside0.mk (below_set (j := 4) (v := .int .i64 e4) (below_set (j := 3) (v := .int .i64 e3) (below_set (j := 2) (v := .int .i64 e2) (below_set (j := 1) (v := .int .i64 e1) (below_set (j := 0) (v := .int .i64 e0) (HB.out) GN.out) GN.out) GN.out) GN.out) GN.out)
     clear BK BN HB hcz0 hfz0 hcz1 hfz1 hcz2 hfz2 hcz3 hfz3 hcz4 hfz4
     have BK := n0_
     have BN := n1_
     have HB := n2_
     clear n0_ n1_ n2_
     generalize (((((w5).setCell ⟨gn, 0, none⟩ (.int .i64 e0)).setCell ⟨gn, 1, none⟩ (.int .i64 e1)).setCell ⟨gn, 2, none⟩ (.int .i64 e2)).setCell ⟨gn, 3, none⟩ (.int .i64 e3)).setCell ⟨gn, 4, none⟩ (.int .i64 e4) = w6 at BK BN HB ⊢
     refine (impl_EdgeOk.calls e0 e1 e2 e3 e4 (EOk e0 e1 e2 e3 e4) _ rfl).mono ?_
     rintro e w7 ⟨rfl, hb⟩
     have n0_ := Aside0.mk (blk_below BK.out hb)
     have n1_ := Aside0.mk (blk_below BN.out hb)
     have n2_ := Aside0.mk (below_step (bs HB.out) hb)
     clear BK BN HB hb
     have BK := n0_
     have BN := n1_
     have HB := n2_
     clear n0_ n1_ n2_
     have hcz0 : w7.cell? ⟨gn, 0, none⟩ = some (.int .i64 e0) := (blk_cell BN.out 0).trans rfl
     have hcz1 : w7.cell? ⟨gn, 1, none⟩ = some (.int .i64 e1) := (blk_cell BN.out 1).trans rfl
     have hcz2 : w7.cell? ⟨gn, 2, none⟩ = some (.int .i64 e2) := (blk_cell BN.out 2).trans rfl
     have hcz3 : w7.cell? ⟨gn, 3, none⟩ = some (.int .i64 e3) := (blk_cell BN.out 3).trans rfl
     have hcz4 : w7.cell? ⟨gn, 4, none⟩ = some (.int .i64 e4) := (blk_cell BN.out 4).trans rfl
     by_cases c3 : EOk e0 e1 e2 e3 e4 = true
     ·rw [if_pos c3] at H
      have HL := Aside0.mk (EOk_l c3)
      obtain ⟨j0, hj0⟩ := Int.eq_ofNat_of_zero_le HL.out.1
      have hcm0 : w7.cell? ⟨gb, j0, none⟩ = some (.int .i64 (rd m e0)) := by rw [hj0]; exact (blk_cell BK.out j0).trans (cts_get m j0 (by have := HM.out; have := HL.out.2; omega))
      have htn : (e0 : Int).toNat = j0 := by omega
      have hcm : w7.cell? ⟨gb, (e0 : Int).toNat, none⟩ = some (.int .i64 (rd m e0)) := by rw [htn]; exact hcm0
      have hfm := blk_frozen BK.out (e0 : Int).toNat
      have hlo : (0 ≤ e0) = True := eq_true HL.out.1
      have hhi : (e0 < 8) = True := eq_true (by have := HL.out.2; omega)
      have hn8 : (e0 : Int).toNat < 8 := by have := HL.out; omega
      clear hj0 hcm0 htn j0
      by_cases c4 : rd m e0 = 7
      ·rw [if_pos c4] at H
       have c4b0 : (rd m e0 == 7) = true := beq_iff_eq.mpr c4
       clear c4
       obtain rfl := Option.some.inj H
       go_wp2
       go_ret
       exact ⟨eqs, bs HB.out⟩
      ·rw [if_neg c4] at H
       have c4b0 : (rd m e0 == 7) = false := beq_eq_false_iff_ne.mpr c4
       clear c4
       by_cases c5 : x10 > 0
       ·rw [if_pos c5] at H
        have c5b0 : decide (0 < x10) = true := decide_eq_true c5
        have hwr : wrap64 (x10 - 1) = x10 - 1 := w64 (by have := CX.out; have := HR0.out.2.1; omega)
        rw [hwr] at H
        rw [if_pos (show 0 ≤ x10 - 1 by omega), if_pos (show x10 - 1 < (l0.length : Int) by have := CX.out; omega)] at H
        obtain ⟨q, hq⟩ : ∃ q, x10 - 1 = q := ⟨_, rfl⟩
        have hqw : wrap64 (x10 - 1) = q := hwr.trans hq
        rw [hq] at H
        have p1 : 0 ≤ q := by omega
        have q1 : q < (l0.length : Int) := by have := CX.out; omega
        obtain ⟨ad', ea', hy0, hy1, hy2, hy3, hy4⟩ := at_T56 HR0.out q p1 q1
        obtain rfl : ad = ad' := by injection ea'
        clear ea' hwr
        replace hq := Aside0.mk hq
        replace hy0 : w7.cell? (ad.add (q.toNat * 5)) = some (.int .i64 (rd_T56 l0 q).f0) := cb HB hy0
        replace hy1 : w7.cell? ⟨(ad.add (q.toNat * 5)).block, (ad.add (q.toNat * 5)).off + 1, none⟩ = some (.int .i64 (rd_T56 l0 q).f1.f0) := cb HB hy1
        replace hy2 : w7.cell? ⟨(ad.add (q.toNat * 5)).block, (ad.add (q.toNat * 5)).off + 2, none⟩ = some (.int .i64 (rd_T56 l0 q).f1.f1) := cb HB hy2
        replace hy3 : w7.cell? ⟨(ad.add (q.toNat * 5)).block, (ad.add (q.toNat * 5)).off + 3, none⟩ = some (.int .i64 (rd_T56 l0 q).f2.f0) := cb HB hy3
        replace hy4 : w7.cell? ⟨(ad.add (q.toNat * 5)).block, (ad.add (q.toNat * 5)).off + 4, none⟩ = some (.int .i64 (rd_T56 l0 q).f2.f1) := cb HB hy4
        replace p1 := eq_true p1
        replace q1 := eq_true q1
        generalize (rd_T56 l0 q).f0 = d0 at H hy0 hy1 hy2 hy3 hy4
        generalize (rd_T56 l0 q).f1.f0 = d1 at H hy0 hy1 hy2 hy3 hy4
        generalize (rd_T56 l0 q).f1.f1 = d2 at H hy0 hy1 hy2 hy3 hy4
        generalize (rd_T56 l0 q).f2.f0 = d3 at H hy0 hy1 hy2 hy3 hy4
        generalize (rd_T56 l0 q).f2.f1 = d4 at H hy0 hy1 hy2 hy3 hy4
        replace H := Option.bind_eq_some_iff.mp H
        obtain ⟨t, A30, H⟩ := H
        have A3 := Aside0.mk A30
        clear A30
        go_wp2
        refine wp_region_bel (by kernel_rfl) (by kernel_rfl) ?_
        clear hcz0 hcz1 hcz2 hcz3 hcz4 hcm hfm hlo hhi hn8
        replace BK := bd BK
        replace BN := Aside0.mk (blk_drew BN.out)
        replace HB := hd HB
        replace hy0 : w7.drew.cell? (ad.add (q.toNat * 5)) = some (.int .i64 d0) := hy0
        replace hy1 : w7.drew.cell? ⟨(ad.add (q.toNat * 5)).block, (ad.add (q.toNat * 5)).off + 1, none⟩ = some (.int .i64 d1) := hy1
        replace hy2 : w7.drew.cell? ⟨(ad.add (q.toNat * 5)).block, (ad.add (q.toNat * 5)).off + 2, none⟩ = some (.int .i64 d2) := hy2
        replace hy3 : w7.drew.cell? ⟨(ad.add (q.toNat * 5)).block, (ad.add (q.toNat * 5)).off + 3, none⟩ = some (.int .i64 d3) := hy3
        replace hy4 : w7.drew.cell? ⟨(ad.add (q.toNat * 5)).block, (ad.add (q.toNat * 5)).off + 4, none⟩ = some (.int .i64 d4) := hy4
        generalize w7.drew = w8 at BK BN HB hy0 hy1 hy2 hy3 hy4 ⊢
        have hz0 : ∀ p : Bel w8, p.v.cell? (ad.add (q.toNat * 5)) = some (.int .i64 d0) := fun p => cell_bel hy0 p
        have hz1 : ∀ p : Bel w8, p.v.cell? ⟨(ad.add (q.toNat * 5)).block, (ad.add (q.toNat * 5)).off + 1, none⟩ = some (.int .i64 d1) := fun p => cell_bel hy1 p
        have hz2 : ∀ p : Bel w8, p.v.cell? ⟨(ad.add (q.toNat * 5)).block, (ad.add (q.toNat * 5)).off + 2, none⟩ = some (.int .i64 d2) := fun p => cell_bel hy2 p
        have hz3 : ∀ p : Bel w8, p.v.cell? ⟨(ad.add (q.toNat * 5)).block, (ad.add (q.toNat * 5)).off + 3, none⟩ = some (.int .i64 d3) := fun p => cell_bel hy3 p
        have hz4 : ∀ p : Bel w8, p.v.cell? ⟨(ad.add (q.toNat * 5)).block, (ad.add (q.toNat * 5)).off + 4, none⟩ = some (.int .i64 d4) := fun p => cell_bel hy4 p
        clear hy0 hy1 hy2 hy3 hy4
        have hz5 : ∀ p : Bel w8, p.v.cell? ⟨gn, 0, none⟩ = some (.int .i64 e0) := fun p => cell_bel ((blk_cell BN.out 0).trans rfl) p
        have hz6 : ∀ p : Bel w8, p.v.cell? ⟨gn, 1, none⟩ = some (.int .i64 e1) := fun p => cell_bel ((blk_cell BN.out 1).trans rfl) p
        have hz7 : ∀ p : Bel w8, p.v.cell? ⟨gn, 2, none⟩ = some (.int .i64 e2) := fun p => cell_bel ((blk_cell BN.out 2).trans rfl) p
        have hz8 : ∀ p : Bel w8, p.v.cell? ⟨gn, 3, none⟩ = some (.int .i64 e3) := fun p => cell_bel ((blk_cell BN.out 3).trans rfl) p
        have hz9 : ∀ p : Bel w8, p.v.cell? ⟨gn, 4, none⟩ = some (.int .i64 e4) := fun p => cell_bel ((blk_cell BN.out 4).trans rfl) p
        by_cases c6 : t ≥ 0
        ·rw [if_pos c6] at H
         have c6b0 : decide (0 ≤ t) = true := decide_eq_true c6
         clear c6
         repeat (go_big_quiet_step (with_reducible exact calls_bel (impl_edgeOrder.calls k1 d0 d1 d2 d3 d4 e0 e1 e2 e3 e4 t _ A3.out)))
         refine wpQuiet_nil ?_
         intro w9 hw'
         obtain ⟨⟨wq_, hb⟩, hw''⟩ := hw'
         subst hw''
         clear hz0 hz1 hz2 hz3 hz4 hz5 hz6 hz7 hz8 hz9 hqw
         have n0_ := Aside0.mk (blk_below BK.out hb)
         have n1_ := Aside0.mk (blk_below BN.out hb)
         have n2_ := Aside0.mk (below_step (bs HB.out) hb)
         clear BK BN HB hb
         have BK := n0_
         have BN := n1_
         have HB := n2_
         clear n0_ n1_ n2_
         obtain rfl := Option.some.inj H
         go_wp2
         go_ret
         exact ⟨eqs, bs HB.out⟩
        ·rw [if_neg c6] at H
         have c6b0 : decide (0 ≤ t) = false := decide_eq_false c6
         clear c6
         repeat (go_big_quiet_step (with_reducible exact calls_bel (impl_edgeOrder.calls k1 d0 d1 d2 d3 d4 e0 e1 e2 e3 e4 t _ A3.out)))
         refine wpQuiet_nil ?_
         intro w9 hw'
         obtain ⟨⟨wq_, hb⟩, hw''⟩ := hw'
         subst hw''
         clear hz0 hz1 hz2 hz3 hz4 hz5 hz6 hz7 hz8 hz9 hqw
         have n0_ := Aside0.mk (blk_below BK.out hb)
         have n1_ := Aside0.mk (blk_below BN.out hb)
         have n2_ := Aside0.mk (below_step (bs HB.out) hb)
         clear BK BN HB hb
         have BK := n0_
         have BN := n1_
         have HB := n2_
         clear n0_ n1_ n2_
         replace H := Option.bind_eq_some_iff.mp H
         obtain ⟨t1, A10, H⟩ := H
         have A1 := Aside0.mk A10
         clear A10
         have hcz0 : w9.cell? ⟨gn, 0, none⟩ = some (.int .i64 e0) := (blk_cell BN.out 0).trans rfl
         have hcz1 : w9.cell? ⟨gn, 1, none⟩ = some (.int .i64 e1) := (blk_cell BN.out 1).trans rfl
         have hcz2 : w9.cell? ⟨gn, 2, none⟩ = some (.int .i64 e2) := (blk_cell BN.out 2).trans rfl
         have hcz3 : w9.cell? ⟨gn, 3, none⟩ = some (.int .i64 e3) := (blk_cell BN.out 3).trans rfl
         have hcz4 : w9.cell? ⟨gn, 4, none⟩ = some (.int .i64 e4) := (blk_cell BN.out 4).trans rfl
         go_wp2_with fail
         refine (impl_nodeThere.calls k1 _ _ l1 e1 e2 t1 _ ?side1 HC1.out A1.out).mono ?_
         case side1 => exact Kd.C_below HR1.out (bs HB.out)
         rintro e w20 ⟨rfl, hb⟩
         clear hcz0 hcz1 hcz2 hcz3 hcz4
         have n0_ := Aside0.mk (blk_below BK.out hb)
         have n1_ := Aside0.mk (blk_below BN.out hb)
         have n2_ := Aside0.mk (below_step (bs HB.out) hb)
         clear BK BN HB hb
         have BK := n0_
         have BN := n1_
         have HB := n2_
         clear n0_ n1_ n2_
         by_cases c7 : t1 = true
         ·subst c7
          replace H : ((impl_nodeThere.f k1 l1 e3 e4).bind fun t2 => if t2 = true then impl_edgesOk.l0 k1 l0 l1 (m.set (e0 : Int).toNat (wrap64 (rd m e0 + 1))) (wrap64 (x10 + 1)) else some false) = some r := by rw [if_pos rfl] at H; exact H
          replace H := Option.bind_eq_some_iff.mp H
          obtain ⟨t2, A20, H⟩ := H
          have A2 := Aside0.mk A20
          clear A20
          have hcz0 : w20.cell? ⟨gn, 0, none⟩ = some (.int .i64 e0) := (blk_cell BN.out 0).trans rfl
          have hcz1 : w20.cell? ⟨gn, 1, none⟩ = some (.int .i64 e1) := (blk_cell BN.out 1).trans rfl
          have hcz2 : w20.cell? ⟨gn, 2, none⟩ = some (.int .i64 e2) := (blk_cell BN.out 2).trans rfl
          have hcz3 : w20.cell? ⟨gn, 3, none⟩ = some (.int .i64 e3) := (blk_cell BN.out 3).trans rfl
          have hcz4 : w20.cell? ⟨gn, 4, none⟩ = some (.int .i64 e4) := (blk_cell BN.out 4).trans rfl
          go_wp2_with fail
          refine (impl_nodeThere.calls k1 _ _ l1 e3 e4 t2 _ ?side1 HC1.out A2.out).mono ?_
          case side1 => exact Kd.C_below HR1.out (bs HB.out)
          rintro e w21 ⟨rfl, hb⟩
          clear hcz0 hcz1 hcz2 hcz3 hcz4
          have n0_ := Aside0.mk (blk_below BK.out hb)
          have n1_ := Aside0.mk (blk_below BN.out hb)
          have n2_ := Aside0.mk (below_step (bs HB.out) hb)
          clear BK BN HB hb
          have BK := n0_
          have BN := n1_
          have HB := n2_
          clear n0_ n1_ n2_
          by_cases c8 : t2 = true
          ·subst c8
           replace H : impl_edgesOk.l0 k1 l0 l1 (m.set (e0 : Int).toNat (wrap64 (rd m e0 + 1))) (wrap64 (x10 + 1)) = some r := by rw [if_pos rfl] at H; exact H
           have H' := Aside0.mk H
           clear H
           obtain ⟨j, rfl⟩ := Int.eq_ofNat_of_zero_le HL.out.1
           have hcz0 : w21.cell? ⟨gn, 0, none⟩ = some (.int .i64 (j : Int)) := (blk_cell BN.out 0).trans rfl
           have hj8 : j < 8 := by have := HL.out.2; omega
           have hjm : j < m.length := by have := HM.out; omega
           have hcm : w21.cell? ⟨gb, j, none⟩ = some (.int .i64 (rd m j)) := (blk_cell BK.out j).trans (cts_get m j hjm)
           have hfm := blk_frozen BK.out j
           have hlo : (0 ≤ (j : Int)) = True := eq_true (by omega)
           have hhi : ((j : Int) < 8) = True := eq_true (by omega)
           go_wp2
           go_roundg k1
           case measure => have := HK1.out; omega
           case rel => exact ⟨wrap64 (x10 + 1), m.set j (wrap64 (rd m (j : Int) + 1)), eqs, ⟨by simpa using H'.out⟩, ⟨by simpa using HM.out⟩, ⟨by have := HK1.out; omega⟩, ⟨by refine blk_put ?_ j _ (cts_set m j _); exact bf BK.out⟩, ⟨bs HB.out⟩⟩
          ·replace c8 := Bool.eq_false_iff.mpr c8
           subst c8
           replace H : some false = some r := by rw [if_neg (by decide)] at H; exact H
           obtain rfl := Option.some.inj H
           go_wp2
           go_ret
           exact ⟨eqs, bs HB.out⟩
         ·replace c7 := Bool.eq_false_iff.mpr c7
          subst c7
          replace H : some false = some r := by rw [if_neg (by decide)] at H; exact H
          obtain rfl := Option.some.inj H
          go_wp2
          go_ret
          exact ⟨eqs, bs HB.out⟩
       ·rw [if_neg c5] at H
        have c5b0 : decide (0 < x10) = false := decide_eq_false c5
        clear c5
        go_wp2
        refine wp_region_bel (by kernel_rfl) (by kernel_rfl) ?_
        clear hcz0 hcz1 hcz2 hcz3 hcz4 hcm hfm hlo hhi hn8
        replace BK := bd BK
        replace BN := Aside0.mk (blk_drew BN.out)
        replace HB := hd HB
        generalize w7.drew = w8 at BK BN HB ⊢
        repeat (go_big_quiet_step (fail))
        refine wpQuiet_nil ?_
        intro w9 hw'
        obtain ⟨⟨wq_, hb⟩, hw''⟩ := hw'
        subst hw''
        have n0_ := Aside0.mk (blk_below BK.out hb)
        have n1_ := Aside0.mk (blk_below BN.out hb)
        have n2_ := Aside0.mk (below_step (bs HB.out) hb)
        clear BK BN HB hb
        have BK := n0_
        have BN := n1_
        have HB := n2_
        clear n0_ n1_ n2_
        replace H := Option.bind_eq_some_iff.mp H
        obtain ⟨t1, A10, H⟩ := H
        have A1 := Aside0.mk A10
        clear A10
        have hcz0 : w9.cell? ⟨gn, 0, none⟩ = some (.int .i64 e0) := (blk_cell BN.out 0).trans rfl
        have hcz1 : w9.cell? ⟨gn, 1, none⟩ = some (.int .i64 e1) := (blk_cell BN.out 1).trans rfl
        have hcz2 : w9.cell? ⟨gn, 2, none⟩ = some (.int .i64 e2) := (blk_cell BN.out 2).trans rfl
        have hcz3 : w9.cell? ⟨gn, 3, none⟩ = some (.int .i64 e3) := (blk_cell BN.out 3).trans rfl
        have hcz4 : w9.cell? ⟨gn, 4, none⟩ = some (.int .i64 e4) := (blk_cell BN.out 4).trans rfl
        go_wp2_with fail
        refine (impl_nodeThere.calls k1 _ _ l1 e1 e2 t1 _ ?side1 HC1.out A1.out).mono ?_
        case side1 => exact Kd.C_below HR1.out (bs HB.out)
        rintro e w20 ⟨rfl, hb⟩
        clear hcz0 hcz1 hcz2 hcz3 hcz4
        have n0_ := Aside0.mk (blk_below BK.out hb)
        have n1_ := Aside0.mk (blk_below BN.out hb)
        have n2_ := Aside0.mk (below_step (bs HB.out) hb)
        clear BK BN HB hb
        have BK := n0_
        have BN := n1_
        have HB := n2_
        clear n0_ n1_ n2_
        by_cases c7 : t1 = true
        ·subst c7
         replace H : ((impl_nodeThere.f k1 l1 e3 e4).bind fun t2 => if t2 = true then impl_edgesOk.l0 k1 l0 l1 (m.set (e0 : Int).toNat (wrap64 (rd m e0 + 1))) (wrap64 (x10 + 1)) else some false) = some r := by rw [if_pos rfl] at H; exact H
         replace H := Option.bind_eq_some_iff.mp H
         obtain ⟨t2, A20, H⟩ := H
         have A2 := Aside0.mk A20
         clear A20
         have hcz0 : w20.cell? ⟨gn, 0, none⟩ = some (.int .i64 e0) := (blk_cell BN.out 0).trans rfl
         have hcz1 : w20.cell? ⟨gn, 1, none⟩ = some (.int .i64 e1) := (blk_cell BN.out 1).trans rfl
         have hcz2 : w20.cell? ⟨gn, 2, none⟩ = some (.int .i64 e2) := (blk_cell BN.out 2).trans rfl
         have hcz3 : w20.cell? ⟨gn, 3, none⟩ = some (.int .i64 e3) := (blk_cell BN.out 3).trans rfl
         have hcz4 : w20.cell? ⟨gn, 4, none⟩ = some (.int .i64 e4) := (blk_cell BN.out 4).trans rfl
         go_wp2_with fail
         refine (impl_nodeThere.calls k1 _ _ l1 e3 e4 t2 _ ?side1 HC1.out A2.out).mono ?_
         case side1 => exact Kd.C_below HR1.out (bs HB.out)
         rintro e w21 ⟨rfl, hb⟩
         clear hcz0 hcz1 hcz2 hcz3 hcz4
         have n0_ := Aside0.mk (blk_below BK.out hb)
         have n1_ := Aside0.mk (blk_below BN.out hb)
         have n2_ := Aside0.mk (below_step (bs HB.out) hb)
         clear BK BN HB hb
         have BK := n0_
         have BN := n1_
         have HB := n2_
         clear n0_ n1_ n2_
         by_cases c8 : t2 = true
         ·subst c8
          replace H : impl_edgesOk.l0 k1 l0 l1 (m.set (e0 : Int).toNat (wrap64 (rd m e0 + 1))) (wrap64 (x10 + 1)) = some r := by rw [if_pos rfl] at H; exact H
          have H' := Aside0.mk H
          clear H
          obtain ⟨j, rfl⟩ := Int.eq_ofNat_of_zero_le HL.out.1
          have hcz0 : w21.cell? ⟨gn, 0, none⟩ = some (.int .i64 (j : Int)) := (blk_cell BN.out 0).trans rfl
          have hj8 : j < 8 := by have := HL.out.2; omega
          have hjm : j < m.length := by have := HM.out; omega
          have hcm : w21.cell? ⟨gb, j, none⟩ = some (.int .i64 (rd m j)) := (blk_cell BK.out j).trans (cts_get m j hjm)
          have hfm := blk_frozen BK.out j
          have hlo : (0 ≤ (j : Int)) = True := eq_true (by omega)
          have hhi : ((j : Int) < 8) = True := eq_true (by omega)
          go_wp2
          go_roundg k1
          case measure => have := HK1.out; omega
          case rel => exact ⟨wrap64 (x10 + 1), m.set j (wrap64 (rd m (j : Int) + 1)), eqs, ⟨by simpa using H'.out⟩, ⟨by simpa using HM.out⟩, ⟨by have := HK1.out; omega⟩, ⟨by refine blk_put ?_ j _ (cts_set m j _); exact bf BK.out⟩, ⟨bs HB.out⟩⟩
         ·replace c8 := Bool.eq_false_iff.mpr c8
          subst c8
          replace H : some false = some r := by rw [if_neg (by decide)] at H; exact H
          obtain rfl := Option.some.inj H
          go_wp2
          go_ret
          exact ⟨eqs, bs HB.out⟩
        ·replace c7 := Bool.eq_false_iff.mpr c7
         subst c7
         replace H : some false = some r := by rw [if_neg (by decide)] at H; exact H
         obtain rfl := Option.some.inj H
         go_wp2
         go_ret
         exact ⟨eqs, bs HB.out⟩
     ·rw [if_neg c3] at H
      replace c3 := Bool.eq_false_iff.mpr c3
      obtain rfl := Option.some.inj H
      rw [c3]
      go_wp2
      go_ret
      exact ⟨eqs, bs HB.out⟩
    ·rw [if_neg c2] at H; cases H
   ·rw [if_neg c1] at H
    have c1b0 : decide (x10 < (l0.length : Int)) = false := decide_eq_false c1
    clear c1
    obtain rfl := Option.some.inj H
    go_wp2
    go_ret
    exact ⟨eqs, bs HB.out⟩

/-! ### impl_GraphOk: function 34 -/
def impl_GraphOk.f (k : Nat) (l0_0 : List (S36)) (l0_1 : List (S56)) : Option (Bool) := (impl_nodesOk.f k l0_0).bind fun t145 => (if t145 = true then ((impl_edgesOk.f k l0_1 l0_0).bind fun t146 => (some t146)) else (some false))
theorem impl_GraphOk.calls (k : Nat) (A0_0 : Option Addr) (c0_0 : Nat) (l0_0 : List (S36)) (A0_1 : Option Addr) (c0_1 : Nat) (l0_1 : List (S56)) (r : Bool) (w : World) (hr0_0 : Kd.C k36 w A0_0 l0_0.length l0_0) (hc0_0 : l0_0.length ≤ c0_0) (hr0_1 : Kd.C k56 w A0_1 l0_1.length l0_1) (hc0_1 : l0_1.length ≤ c0_1) (h : impl_GraphOk.f k l0_0 l0_1 = some r) :
  Calls Try.prog 34 #[.agg #[.slice A0_0 l0_0.length c0_0, .slice A0_1 l0_1.length c0_1]] w fun e w' => e = .returned (.bool r) ∧ Below w.heap.size w w' := by
 have hu34 := Try.underlying34
 have HR0_0 := Aside0.mk hr0_0
 have HC0_0 := Aside0.mk hc0_0
 clear hr0_0 hc0_0
 have HR0_1 := Aside0.mk hr0_1
 have HC0_1 := Aside0.mk hc0_1
 clear hr0_1 hc0_1
 have HB := Aside0.mk (Below.refl w.heap.size w)
 have H := h; unfold impl_GraphOk.f at H
 clear h
 replace H := Option.bind_eq_some_iff.mp H
 obtain ⟨t145, A20, H⟩ := H
 try dsimp -simprocs only at H
 have A2 := Aside0.mk A20
 clear A20
 by_cases c3 : t145 = true
 ·subst c3
  have H1 : ((impl_edgesOk.f k l0_1 l0_0).bind fun t146 => (some t146)) = some r := by rw [if_pos rfl] at H; exact H
  clear H
  have H := H1
  clear H1
  replace H := Option.bind_eq_some_iff.mp H
  obtain ⟨t146, A40, H⟩ := H
  try dsimp -simprocs only at H
  have A4 := Aside0.mk A40
  clear A40
  obtain rfl := Option.some.inj H
  go_enter Try.func34, Try.ntmps34
  go_wp2_with (first | ((with_reducible refine gd 1 rfl ?_); refine bx 1 (cs := #[.slice A0_0 l0_0.length c0_0, .slice A0_1 l0_1.length c0_1]) (t := 34) ?_; intro gb144 hg w5 hbox hb; have BK144 := Aside0.mk (hbox); have GW144 := gwb HB hg; replace HB := hs HB hb; clear hb hbox hg; obtain ⟨hcz6_0, hcz6_1⟩ := bc2 (w := w5) BK144.out; have hfz6 := blk_frozen BK144.out) | ((with_reducible refine gc 81 rfl ?_); refine gl 5 Try.func81 #[.slice A0_0 l0_0.length c0_0] ?_; (with_reducible refine (impl_nodesOk.calls k _ _ l0_0 true _ ?side1 ?side2 A2.out).mono ?_); (case side1 => exact Kd.C_below HR0_0.out (bs HB.out)); (case side2 => exact HC0_0.out); rintro e w7 ⟨rfl, hb⟩; refine ⟨_, rfl, ?_⟩; replace BK144 := bb BK144 hb rfl; replace HB := hs HB hb; (try clear hb); obtain ⟨hcz8_0, hcz8_1⟩ := bc2 (w := w7) BK144.out; have hfz8 := blk_frozen BK144.out) | (go_at_call 82; (with_reducible refine (impl_edgesOk.calls k _ _ l0_1 _ _ l0_0 t146 _ ?side1 ?side2 ?side3 ?side4 A4.out).mono ?_); (case side1 => exact Kd.C_below HR0_1.out (bs HB.out)); (case side2 => exact HC0_1.out); (case side3 => exact Kd.C_below HR0_0.out (bs HB.out)); (case side4 => exact HC0_0.out); rintro e w9 ⟨rfl, hb⟩; replace BK144 := bb BK144 hb rfl; replace HB := hs HB hb; (try clear hb)))
  go_ret
  exact ⟨eqr, bs HB.out⟩
 ·replace c3 := Bool.eq_false_iff.mpr c3
  subst c3
  have H1 : (some false) = some r := by rw [if_neg (show ¬ (false = true) by decide)] at H; exact H
  clear H
  have H := H1
  clear H1
  obtain rfl := Option.some.inj H
  go_enter Try.func34, Try.ntmps34
  go_wp2_with (first | ((with_reducible refine gd 1 rfl ?_); refine bx 1 (cs := #[.slice A0_0 l0_0.length c0_0, .slice A0_1 l0_1.length c0_1]) (t := 34) ?_; intro gb144 hg w10 hbox hb; have BK144 := Aside0.mk (hbox); have GW144 := gwb HB hg; replace HB := hs HB hb; clear hb hbox hg; obtain ⟨hcz11_0, hcz11_1⟩ := bc2 (w := w10) BK144.out; have hfz11 := blk_frozen BK144.out) | ((with_reducible refine gc 81 rfl ?_); refine gl 5 Try.func81 #[.slice A0_0 l0_0.length c0_0] ?_; (with_reducible refine (impl_nodesOk.calls k _ _ l0_0 false _ ?side1 ?side2 A2.out).mono ?_); (case side1 => exact Kd.C_below HR0_0.out (bs HB.out)); (case side2 => exact HC0_0.out); rintro e w12 ⟨rfl, hb⟩; refine ⟨_, rfl, ?_⟩; replace BK144 := bb BK144 hb rfl; replace HB := hs HB hb; (try clear hb)))
  go_ret
  exact ⟨eqr, bs HB.out⟩

end Go.Proofs.Ytohmemckdogljaa.QFnGraphView
