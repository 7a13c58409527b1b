/- Contracts of the Go functions that this law reaches: each does what its plain Lean function says. No condition. -/
import Derived.Test.YtohmemckdogljaaQFnExactGraphOkx0
import Derived.Test.YtohmemckdogljaaQFnExactGraphOkx2
import Derived.Test.YtohmemckdogljaaQFnExactGraphOkx3
import Derived.Test.YtohmemckdogljaaQFnExactGraphOkx5
import Derived.Test.YtohmemckdogljaaQFnExactGraphOkx6
import Derived.Test.YtohmemckdogljaaQFnExactGraphOkx7
namespace Go.Proofs.Ytohmemckdogljaa.QFnExactGraphOk
open Go.RowKit Go.Proofs.YtohmemckdogljaaW.PrintWords Go.Proofs.YtohmemckdogljaaW.PrintLast Go.Proofs.YtohmemckdogljaaW.PrintMore Go.Proofs.Ytohmemckdogljaa.Bl
attribute [local go_sem] max2_int min2_int max_two min_two max_three min_three max_four min_four   -- for this text's walks alone
set_option linter.unusedVariables false
set_option linter.unusedSimpArgs false

/-! ### impl_edgesOk: function 82 -/
def impl_edgesOk.l0 : Nat → List S56 → List S36 → List Int → Int → Option Bool
  | 0, _, _, _, _ => none
  | k + 1, es, ns, m, i => if i < (es.length : Int) then (if 0 ≤ i then (if EOk (rd_T56 es i).f0 (rd_T56 es i).f1.f0 (rd_T56 es i).f1.f1 (rd_T56 es i).f2.f0 (rd_T56 es i).f2.f1 = true then (if rd m (rd_T56 es i).f0 = 7 then some false else (if i > 0 then (if 0 ≤ wrap64 (i - 1) then (if wrap64 (i - 1) < (es.length : Int) then (impl_edgeOrder.f k (rd_T56 es (wrap64 (i - 1))).f0 (rd_T56 es (wrap64 (i - 1))).f1.f0 (rd_T56 es (wrap64 (i - 1))).f1.f1 (rd_T56 es (wrap64 (i - 1))).f2.f0 (rd_T56 es (wrap64 (i - 1))).f2.f1 (rd_T56 es i).f0 (rd_T56 es i).f1.f0 (rd_T56 es i).f1.f1 (rd_T56 es i).f2.f0 (rd_T56 es i).f2.f1).bind fun t => if t ≥ 0 then some false else ((impl_nodeThere.f k ns (rd_T56 es i).f1.f0 (rd_T56 es i).f1.f1).bind fun t1 => if t1 = true then (impl_nodeThere.f k ns (rd_T56 es i).f2.f0 (rd_T56 es i).f2.f1).bind fun t2 => if t2 = true then impl_edgesOk.l0 k es ns (m.set ((rd_T56 es i).f0).toNat (wrap64 (rd m (rd_T56 es i).f0 + 1))) (wrap64 (i + 1)) else some false else some false) else none) else none) else ((impl_nodeThere.f k ns (rd_T56 es i).f1.f0 (rd_T56 es i).f1.f1).bind fun t1 => if t1 = true then (impl_nodeThere.f k ns (rd_T56 es i).f2.f0 (rd_T56 es i).f2.f1).bind fun t2 => if t2 = true then impl_edgesOk.l0 k es ns (m.set ((rd_T56 es i).f0).toNat (wrap64 (rd m (rd_T56 es i).f0 + 1))) (wrap64 (i + 1)) else some false else some false))) else some false) else none) else some true
def impl_edgesOk.f (k : Nat) (l0 : List S56) (l1 : List S36) : Option Bool := impl_edgesOk.l0 k l0 l1 [0, 0, 0, 0, 0, 0, 0, 0] 0
theorem impl_edgesOk.mono_l : ∀ k, (∀ y0 y1 y2 y3, LeO (impl_edgesOk.l0 k y0 y1 y2 y3) (impl_edgesOk.l0 (k + 1) y0 y1 y2 y3))
  | 0 => fun _ _ _ _ r h => by simp [impl_edgesOk.l0] at h
  | k + 1 => by
    have ih0 := impl_edgesOk.mono_l k
    intro y0 y1 y2 y3
    unfold impl_edgesOk.l0
    repeat' first
    | (with_reducible exact ih0 _ _ _ _)
    | (with_reducible exact impl_edgeOrder.mono _ _ _ _ _ _ _ _ _ _ _)
    | (with_reducible exact impl_nodeThere.mono _ _ _ _)
    | (with_reducible exact LeO.refl _)
    | (with_reducible exact LeO.none _)
    | (with_reducible refine LeO.ite ?_ ?_)
    | (with_reducible refine LeO.bind ?_ (fun _ => ?_))
theorem impl_edgesOk.mono : ∀ a0 a1 k, LeO (impl_edgesOk.f k a0 a1) (impl_edgesOk.f (k + 1) a0 a1) := fun a0 a1 k => impl_edgesOk.mono_l k _ _ _ _
set_option maxHeartbeats 8000000 in
set_option maxRecDepth 100000 in
theorem impl_edgesOk.calls (k : Nat) (A0 : Option Addr) (c0 : Nat) (l0 : List S56) (A1 : Option Addr) (c1 : Nat) (l1 : List S36) (r : Bool) (w : World) (hr0 : Kd.C k56 w A0 l0.length l0) (hc0 : l0.length ≤ c0) (hr1 : Kd.C k36 w A1 l1.length l1) (hc1 : l1.length ≤ c1) (h : impl_edgesOk.f k l0 l1 = some r) :
    Calls Try.prog 82 #[.slice A0 l0.length c0, .slice A1 l1.length c1] w fun e w' => e = .returned (.bool r) ∧ Below w.heap.size w w' := by
  have hu36 := Try.underlying36
  have hu56 := Try.underlying56
  have hu122 := Try.underlying122
  have HR0 := Aside0.mk hr0
  have HC0 := Aside0.mk hc0
  have HR1 := Aside0.mk hr1
  have HC1 := Aside0.mk hc1
  clear hr0 hc0 hr1 hc1
  have HB := Aside0.mk (Below.refl w.heap.size w)
  have H' := Aside0.mk (show impl_edgesOk.l0 k l0 l1 [0, 0, 0, 0, 0, 0, 0, 0] 0 = some r from h)
  clear h
  go_enter Try.func82, Try.ntmps82
  go_wp2_with (first | ((with_reducible refine gate_dst (N := 5) rfl ?_); refine box_event ?hg (N := 5) ?hd (cs := cts [0, 0, 0, 0, 0, 0, 0, 0]) (t := 122) ?hr ?_; (case hd => rfl); (case hg => rfl); (case hr => first | (go_simp; done) | (go_simp; rfl)); intro gb hg w3 hbox hb; have n0_ := Aside0.mk (below_step HB.out hb); have n1_ := Aside0.mk hbox; have n2_ := Aside0.mk ((by rw [hg]; exact (below_size (by repeat (first | (with_reducible first | exact HB.out | apply below_alloc | apply pw_below_drewN | apply below_drew1) | exact HB.out))) : w.heap.size ≤ gb)); clear HB; have HB := n0_; have BK := n1_; have GE := n2_; clear n0_ n1_ n2_ hg hb hbox))
  go_loopg [10] k (fun kq v10 w' => ∃ (x10 : Int) (m : List Int), v10 = .int .i64 x10 ∧ Aside0 (impl_edgesOk.l0 kq l0 l1 m x10 = some r) ∧ Aside0 (m.length = 8) ∧ Aside0 (kq ≤ k) ∧ Aside0 (w'.heap[gb]? = some (.cells (cts m) 122 (0, 0))) ∧ Aside0 (Below w.heap.size w w'))
  case atStart => exact ⟨0, [0, 0, 0, 0, 0, 0, 0, 0], (by first | rfl | (simp; done) | (simp [*]; done)), H', ⟨rfl⟩, ⟨Nat.le_refl _⟩, ⟨by (with_reducible repeat (first | refine blk_drewN ?_ _ | refine blk_drew ?_ | refine blk_alloc ?_ _)); exact BK.out⟩, ⟨by repeat (first | (with_reducible first | exact HB.out | apply below_alloc | apply pw_below_drewN | apply below_drew1 | refine below_set ?_ GE.out) | exact HB.out)⟩⟩
  case round =>
    clear H'
    obtain ⟨x10, m, rfl, HA, HM, HK1, BK, HB⟩ := hrel
    cases gk with
    | zero => exact absurd HA.out (by simp [impl_edgesOk.l0])
    | succ k1 =>
      have H := HA.out
      clear HA
      simp only [impl_edgesOk.l0] at H
      by_cases c1 : x10 < (l0.length : Int)
      · rw [if_pos c1] at H
        have c1b0 : decide (x10 < (l0.length : Int)) = true := decide_eq_true c1
        by_cases c2 : 0 ≤ x10
        · rw [if_pos c2] at H
          have p0 := c2
          have q0 := c1
          obtain ⟨ad, ea, hx0, hx1, hx2, hx3, hx4⟩ := at_T56 HR0.out x10 p0 q0
          cases ea
          have CX := Aside0.mk (show 0 ≤ x10 ∧ x10 < (l0.length : Int) from ⟨c2, c1⟩)
          replace hx0 := (HB.out.cell (World.block_lt_of_cell? w _ hx0)).trans hx0
          replace hx1 := (HB.out.cell (World.block_lt_of_cell? w _ hx1)).trans hx1
          replace hx2 := (HB.out.cell (World.block_lt_of_cell? w _ hx2)).trans hx2
          replace hx3 := (HB.out.cell (World.block_lt_of_cell? w _ hx3)).trans hx3
          replace hx4 := (HB.out.cell (World.block_lt_of_cell? w _ hx4)).trans hx4
          replace p0 := eq_true p0
          replace q0 := eq_true q0
          clear c1 c2
          generalize (rd_T56 l0 x10).f0 = e0 at H hx0 hx1 hx2 hx3 hx4
          generalize (rd_T56 l0 x10).f1.f0 = e1 at H hx0 hx1 hx2 hx3 hx4
          generalize (rd_T56 l0 x10).f1.f1 = e2 at H hx0 hx1 hx2 hx3 hx4
          generalize (rd_T56 l0 x10).f2.f0 = e3 at H hx0 hx1 hx2 hx3 hx4
          generalize (rd_T56 l0 x10).f2.f1 = e4 at H hx0 hx1 hx2 hx3 hx4
          go_wp2_with (first | ((with_reducible refine gate_dst (N := 7) rfl ?_); refine box_event ?hg (N := 7) ?hd (cs := #[.int .i64 0, .int .i64 0, .int .i64 0, .int .i64 0, .int .i64 0]) (t := 56) ?hr ?_; (case hd => rfl); (case hg => rfl); (case hr => first | (go_simp; done) | (go_simp; rfl)); intro gn hg w5 hbox hb; have n0_ := Aside0.mk (blk_below (g := gb) (by (with_reducible repeat (first | refine blk_drewN ?_ _ | refine blk_drew ?_ | refine blk_alloc ?_ _)); exact BK.out) hb); have n1_ := Aside0.mk (below_step (by repeat (first | (with_reducible first | exact HB.out | apply below_alloc | apply pw_below_drewN | apply below_drew1 | refine below_set ?_ GE.out) | exact HB.out)) hb); have n2_ := Aside0.mk hbox; have n3_ := Aside0.mk ((by rw [hg]; exact (below_size (by repeat (first | (with_reducible first | exact HB.out | apply below_alloc | apply pw_below_drewN | apply below_drew1 | refine below_set ?_ GE.out) | exact HB.out))) : w.heap.size ≤ gn)); have n4_ := Aside0.mk ((by rw [hg]; exact Nat.ne_of_lt (blk_lt (g := gb) (by (with_reducible repeat (first | refine blk_drewN ?_ _ | refine blk_drew ?_ | refine blk_alloc ?_ _)); exact BK.out)) : gb ≠ gn)); clear BK HB; have BK := n0_; have HB := n1_; have BN := n2_; have GN := n3_; have NE := n4_; clear n0_ n1_ n2_ n3_ n4_; clear hb hbox hg; have hcz0 : w5.cell? ⟨gn, 0, none⟩ = some (.int .i64 0) := (blk_cell BN.out 0).trans rfl; have hcz1 : w5.cell? ⟨gn, 1, none⟩ = some (.int .i64 0) := (blk_cell BN.out 1).trans rfl; have hcz2 : w5.cell? ⟨gn, 2, none⟩ = some (.int .i64 0) := (blk_cell BN.out 2).trans rfl; have hcz3 : w5.cell? ⟨gn, 3, none⟩ = some (.int .i64 0) := (blk_cell BN.out 3).trans rfl; have hcz4 : w5.cell? ⟨gn, 4, none⟩ = some (.int .i64 0) := (blk_cell BN.out 4).trans rfl; have hfz0 := blk_frozen BN.out 0; have hfz1 := blk_frozen BN.out 1; have hfz2 := blk_frozen BN.out 2; have hfz3 := blk_frozen BN.out 3; have hfz4 := blk_frozen BN.out 4))
          have n0_ := Aside0.mk (blk_far (blk_far (blk_far (blk_far (blk_far (BK.out) (p := ⟨gn, 0, none⟩) NE.out (.int .i64 e0)) (p := ⟨gn, 1, none⟩) NE.out (.int .i64 e1)) (p := ⟨gn, 2, none⟩) NE.out (.int .i64 e2)) (p := ⟨gn, 3, none⟩) NE.out (.int .i64 e3)) (p := ⟨gn, 4, none⟩) NE.out (.int .i64 e4))
          have n1_ := Aside0.mk (blk_put (cs' := #[.int .i64 e0, .int .i64 e1, .int .i64 e2, .int .i64 e3, .int .i64 e4]) (blk_put (cs' := #[.int .i64 e0, .int .i64 e1, .int .i64 e2, .int .i64 e3, .int .i64 0]) (blk_put (cs' := #[.int .i64 e0, .int .i64 e1, .int .i64 e2, .int .i64 0, .int .i64 0]) (blk_put (cs' := #[.int .i64 e0, .int .i64 e1, .int .i64 0, .int .i64 0, .int .i64 0]) (blk_put (cs' := #[.int .i64 e0, .int .i64 0, .int .i64 0, .int .i64 0, .int .i64 0]) (BN.out) 0 (.int .i64 e0) rfl) 1 (.int .i64 e1) rfl) 2 (.int .i64 e2) rfl) 3 (.int .i64 e3) rfl) 4 (.int .i64 e4) rfl)
          have n2_ := Aside0.mk (below_set (j := 4) (v := .int .i64 e4) (below_set (j := 3) (v := .int .i64 e3) (below_set (j := 2) (v := .int .i64 e2) (below_set (j := 1) (v := .int .i64 e1) (below_set (j := 0) (v := .int .i64 e0) (HB.out) GN.out) GN.out) GN.out) GN.out) GN.out)
          clear BK BN HB hcz0 hfz0 hcz1 hfz1 hcz2 hfz2 hcz3 hfz3 hcz4 hfz4
          have BK := n0_
          have BN := n1_
          have HB := n2_
          clear n0_ n1_ n2_
          generalize (((((w5).setCell ⟨gn, 0, none⟩ (.int .i64 e0)).setCell ⟨gn, 1, none⟩ (.int .i64 e1)).setCell ⟨gn, 2, none⟩ (.int .i64 e2)).setCell ⟨gn, 3, none⟩ (.int .i64 e3)).setCell ⟨gn, 4, none⟩ (.int .i64 e4) = w6 at BK BN HB ⊢
          refine (impl_EdgeOk.calls e0 e1 e2 e3 e4 (EOk e0 e1 e2 e3 e4) _ rfl).mono ?_
          rintro e w7 ⟨rfl, hb⟩
          have n0_ := Aside0.mk (blk_below BK.out hb)
          have n1_ := Aside0.mk (blk_below BN.out hb)
          have n2_ := Aside0.mk (below_step (by repeat (first | (with_reducible first | exact HB.out | apply below_alloc | apply pw_below_drewN | apply below_drew1 | refine below_set ?_ GE.out) | exact HB.out)) hb)
          clear BK BN HB hb
          have BK := n0_
          have BN := n1_
          have HB := n2_
          clear n0_ n1_ n2_
          have hcz0 : w7.cell? ⟨gn, 0, none⟩ = some (.int .i64 e0) := (blk_cell BN.out 0).trans rfl
          have hcz1 : w7.cell? ⟨gn, 1, none⟩ = some (.int .i64 e1) := (blk_cell BN.out 1).trans rfl
          have hcz2 : w7.cell? ⟨gn, 2, none⟩ = some (.int .i64 e2) := (blk_cell BN.out 2).trans rfl
          have hcz3 : w7.cell? ⟨gn, 3, none⟩ = some (.int .i64 e3) := (blk_cell BN.out 3).trans rfl
          have hcz4 : w7.cell? ⟨gn, 4, none⟩ = some (.int .i64 e4) := (blk_cell BN.out 4).trans rfl
          by_cases c3 : EOk e0 e1 e2 e3 e4 = true
          · rw [if_pos c3] at H
            have HL := Aside0.mk (EOk_l c3)
            obtain ⟨j0, hj0⟩ := Int.eq_ofNat_of_zero_le HL.out.1
            have hcm0 : w7.cell? ⟨gb, j0, none⟩ = some (.int .i64 (rd m e0)) := by rw [hj0]; exact (blk_cell BK.out j0).trans (cts_get m j0 (by have := HM.out; have := HL.out.2; omega))
            have htn : (e0 : Int).toNat = j0 := by omega
            have hcm : w7.cell? ⟨gb, (e0 : Int).toNat, none⟩ = some (.int .i64 (rd m e0)) := by rw [htn]; exact hcm0
            have hfm := blk_frozen BK.out (e0 : Int).toNat
            have hlo : (0 ≤ e0) = True := eq_true HL.out.1
            have hhi : (e0 < 8) = True := eq_true (by have := HL.out.2; omega)
            have hn8 : (e0 : Int).toNat < 8 := by have := HL.out; omega
            clear hj0 hcm0 htn j0
            by_cases c4 : rd m e0 = 7
            · rw [if_pos c4] at H
              have c4b0 : (rd m e0 == 7) = true := beq_iff_eq.mpr c4
              clear c4
              obtain rfl := Option.some.inj H
              go_wp2
              go_ret
              exact ⟨by first | rfl | (simp; done) | (simp [*]; done), by repeat (first | (with_reducible first | exact HB.out | apply below_alloc | apply pw_below_drewN | apply below_drew1 | refine below_set ?_ GE.out) | exact HB.out)⟩
            · rw [if_neg c4] at H
              have c4b0 : (rd m e0 == 7) = false := beq_eq_false_iff_ne.mpr c4
              clear c4
              by_cases c5 : x10 > 0
              · rw [if_pos c5] at H
                have c5b0 : decide (0 < x10) = true := decide_eq_true c5
                have hwr : wrap64 (x10 - 1) = x10 - 1 := w64 (by have := CX.out; have := HR0.out.2.1; omega)
                rw [hwr] at H
                rw [if_pos (show 0 ≤ x10 - 1 by omega), if_pos (show x10 - 1 < (l0.length : Int) by have := CX.out; omega)] at H
                obtain ⟨q, hq⟩ : ∃ q, x10 - 1 = q := ⟨_, rfl⟩
                have hqw : wrap64 (x10 - 1) = q := hwr.trans hq
                rw [hq] at H
                have p1 : 0 ≤ q := by omega
                have q1 : q < (l0.length : Int) := by have := CX.out; omega
                obtain ⟨ad', ea', hy0, hy1, hy2, hy3, hy4⟩ := at_T56 HR0.out q p1 q1
                obtain rfl : ad = ad' := by injection ea'
                clear ea' hwr
                replace hq := Aside0.mk hq
                replace hy0 : w7.cell? (ad.add (q.toNat * 5)) = some (.int .i64 (rd_T56 l0 q).f0) := (HB.out.cell (World.block_lt_of_cell? w _ hy0)).trans hy0
                replace hy1 : w7.cell? ⟨(ad.add (q.toNat * 5)).block, (ad.add (q.toNat * 5)).off + 1, none⟩ = some (.int .i64 (rd_T56 l0 q).f1.f0) := (HB.out.cell (World.block_lt_of_cell? w _ hy1)).trans hy1
                replace hy2 : w7.cell? ⟨(ad.add (q.toNat * 5)).block, (ad.add (q.toNat * 5)).off + 2, none⟩ = some (.int .i64 (rd_T56 l0 q).f1.f1) := (HB.out.cell (World.block_lt_of_cell? w _ hy2)).trans hy2
                replace hy3 : w7.cell? ⟨(ad.add (q.toNat * 5)).block, (ad.add (q.toNat * 5)).off + 3, none⟩ = some (.int .i64 (rd_T56 l0 q).f2.f0) := (HB.out.cell (World.block_lt_of_cell? w _ hy3)).trans hy3
                replace hy4 : w7.cell? ⟨(ad.add (q.toNat * 5)).block, (ad.add (q.toNat * 5)).off + 4, none⟩ = some (.int .i64 (rd_T56 l0 q).f2.f1) := (HB.out.cell (World.block_lt_of_cell? w _ hy4)).trans hy4
                replace p1 := eq_true p1
                replace q1 := eq_true q1
                generalize (rd_T56 l0 q).f0 = d0 at H hy0 hy1 hy2 hy3 hy4
                generalize (rd_T56 l0 q).f1.f0 = d1 at H hy0 hy1 hy2 hy3 hy4
                generalize (rd_T56 l0 q).f1.f1 = d2 at H hy0 hy1 hy2 hy3 hy4
                generalize (rd_T56 l0 q).f2.f0 = d3 at H hy0 hy1 hy2 hy3 hy4
                generalize (rd_T56 l0 q).f2.f1 = d4 at H hy0 hy1 hy2 hy3 hy4
                replace H := Option.bind_eq_some_iff.mp H
                obtain ⟨t, A30, H⟩ := H
                have A3 := Aside0.mk A30
                clear A30
                go_wp2
                refine wp_region_bel (by kernel_rfl) (by kernel_rfl) ?_
                clear hcz0 hcz1 hcz2 hcz3 hcz4 hcm hfm hlo hhi hn8
                have n0_ := Aside0.mk (blk_drew BK.out)
                have n1_ := Aside0.mk (blk_drew BN.out)
                have n2_ := Aside0.mk (below_drew1 HB.out)
                clear BK BN HB
                have BK := n0_
                have BN := n1_
                have HB := n2_
                clear n0_ n1_ n2_
                replace hy0 : w7.drew.cell? (ad.add (q.toNat * 5)) = some (.int .i64 d0) := hy0
                replace hy1 : w7.drew.cell? ⟨(ad.add (q.toNat * 5)).block, (ad.add (q.toNat * 5)).off + 1, none⟩ = some (.int .i64 d1) := hy1
                replace hy2 : w7.drew.cell? ⟨(ad.add (q.toNat * 5)).block, (ad.add (q.toNat * 5)).off + 2, none⟩ = some (.int .i64 d2) := hy2
                replace hy3 : w7.drew.cell? ⟨(ad.add (q.toNat * 5)).block, (ad.add (q.toNat * 5)).off + 3, none⟩ = some (.int .i64 d3) := hy3
                replace hy4 : w7.drew.cell? ⟨(ad.add (q.toNat * 5)).block, (ad.add (q.toNat * 5)).off + 4, none⟩ = some (.int .i64 d4) := hy4
                generalize w7.drew = w8 at BK BN HB hy0 hy1 hy2 hy3 hy4 ⊢
                have hz0 : ∀ p : Bel w8, p.v.cell? (ad.add (q.toNat * 5)) = some (.int .i64 d0) := fun p => cell_bel hy0 p
                have hz1 : ∀ p : Bel w8, p.v.cell? ⟨(ad.add (q.toNat * 5)).block, (ad.add (q.toNat * 5)).off + 1, none⟩ = some (.int .i64 d1) := fun p => cell_bel hy1 p
                have hz2 : ∀ p : Bel w8, p.v.cell? ⟨(ad.add (q.toNat * 5)).block, (ad.add (q.toNat * 5)).off + 2, none⟩ = some (.int .i64 d2) := fun p => cell_bel hy2 p
                have hz3 : ∀ p : Bel w8, p.v.cell? ⟨(ad.add (q.toNat * 5)).block, (ad.add (q.toNat * 5)).off + 3, none⟩ = some (.int .i64 d3) := fun p => cell_bel hy3 p
                have hz4 : ∀ p : Bel w8, p.v.cell? ⟨(ad.add (q.toNat * 5)).block, (ad.add (q.toNat * 5)).off + 4, none⟩ = some (.int .i64 d4) := fun p => cell_bel hy4 p
                clear hy0 hy1 hy2 hy3 hy4
                have hz5 : ∀ p : Bel w8, p.v.cell? ⟨gn, 0, none⟩ = some (.int .i64 e0) := fun p => cell_bel ((blk_cell BN.out 0).trans rfl) p
                have hz6 : ∀ p : Bel w8, p.v.cell? ⟨gn, 1, none⟩ = some (.int .i64 e1) := fun p => cell_bel ((blk_cell BN.out 1).trans rfl) p
                have hz7 : ∀ p : Bel w8, p.v.cell? ⟨gn, 2, none⟩ = some (.int .i64 e2) := fun p => cell_bel ((blk_cell BN.out 2).trans rfl) p
                have hz8 : ∀ p : Bel w8, p.v.cell? ⟨gn, 3, none⟩ = some (.int .i64 e3) := fun p => cell_bel ((blk_cell BN.out 3).trans rfl) p
                have hz9 : ∀ p : Bel w8, p.v.cell? ⟨gn, 4, none⟩ = some (.int .i64 e4) := fun p => cell_bel ((blk_cell BN.out 4).trans rfl) p
                by_cases c6 : t ≥ 0
                · rw [if_pos c6] at H
                  have c6b0 : decide (0 ≤ t) = true := decide_eq_true c6
                  clear c6
                  repeat (go_big_quiet_step (with_reducible exact calls_bel (impl_edgeOrder.calls k1 d0 d1 d2 d3 d4 e0 e1 e2 e3 e4 t _ A3.out)))
                  refine wpQuiet_nil ?_
                  intro w9 hw'
                  obtain ⟨⟨wq_, hb⟩, hw''⟩ := hw'
                  subst hw''
                  clear hz0 hz1 hz2 hz3 hz4 hz5 hz6 hz7 hz8 hz9 hqw
                  have n0_ := Aside0.mk (blk_below BK.out hb)
                  have n1_ := Aside0.mk (blk_below BN.out hb)
                  have n2_ := Aside0.mk (below_step (by repeat (first | (with_reducible first | exact HB.out | apply below_alloc | apply pw_below_drewN | apply below_drew1 | refine below_set ?_ GE.out) | exact HB.out)) hb)
                  clear BK BN HB hb
                  have BK := n0_
                  have BN := n1_
                  have HB := n2_
                  clear n0_ n1_ n2_
                  obtain rfl := Option.some.inj H
                  go_wp2
                  go_ret
                  exact ⟨by first | rfl | (simp; done) | (simp [*]; done), by repeat (first | (with_reducible first | exact HB.out | apply below_alloc | apply pw_below_drewN | apply below_drew1 | refine below_set ?_ GE.out) | exact HB.out)⟩
                · rw [if_neg c6] at H
                  have c6b0 : decide (0 ≤ t) = false := decide_eq_false c6
                  clear c6
                  repeat (go_big_quiet_step (with_reducible exact calls_bel (impl_edgeOrder.calls k1 d0 d1 d2 d3 d4 e0 e1 e2 e3 e4 t _ A3.out)))
                  refine wpQuiet_nil ?_
                  intro w9 hw'
                  obtain ⟨⟨wq_, hb⟩, hw''⟩ := hw'
                  subst hw''
                  clear hz0 hz1 hz2 hz3 hz4 hz5 hz6 hz7 hz8 hz9 hqw
                  have n0_ := Aside0.mk (blk_below BK.out hb)
                  have n1_ := Aside0.mk (blk_below BN.out hb)
                  have n2_ := Aside0.mk (below_step (by repeat (first | (with_reducible first | exact HB.out | apply below_alloc | apply pw_below_drewN | apply below_drew1 | refine below_set ?_ GE.out) | exact HB.out)) hb)
                  clear BK BN HB hb
                  have BK := n0_
                  have BN := n1_
                  have HB := n2_
                  clear n0_ n1_ n2_
                  replace H := Option.bind_eq_some_iff.mp H
                  obtain ⟨t1, A10, H⟩ := H
                  have A1 := Aside0.mk A10
                  clear A10
                  have hcz0 : w9.cell? ⟨gn, 0, none⟩ = some (.int .i64 e0) := (blk_cell BN.out 0).trans rfl
                  have hcz1 : w9.cell? ⟨gn, 1, none⟩ = some (.int .i64 e1) := (blk_cell BN.out 1).trans rfl
                  have hcz2 : w9.cell? ⟨gn, 2, none⟩ = some (.int .i64 e2) := (blk_cell BN.out 2).trans rfl
                  have hcz3 : w9.cell? ⟨gn, 3, none⟩ = some (.int .i64 e3) := (blk_cell BN.out 3).trans rfl
                  have hcz4 : w9.cell? ⟨gn, 4, none⟩ = some (.int .i64 e4) := (blk_cell BN.out 4).trans rfl
                  go_wp2_with fail
                  refine (impl_nodeThere.calls k1 _ _ l1 e1 e2 t1 _ ?side1 HC1.out A1.out).mono ?_
                  case side1 => repeat (first | exact (Kd.C_below HR1.out HB.out) | (with_reducible refine Kd.C_alloc ?_ _) | (with_reducible refine Kd.C_drewN ?_ _) | (with_reducible refine Kd.C_drew ?_))
                  rintro e w20 ⟨rfl, hb⟩
                  clear hcz0 hcz1 hcz2 hcz3 hcz4
                  have n0_ := Aside0.mk (blk_below BK.out hb)
                  have n1_ := Aside0.mk (blk_below BN.out hb)
                  have n2_ := Aside0.mk (below_step (by repeat (first | (with_reducible first | exact HB.out | apply below_alloc | apply pw_below_drewN | apply below_drew1 | refine below_set ?_ GE.out) | exact HB.out)) hb)
                  clear BK BN HB hb
                  have BK := n0_
                  have BN := n1_
                  have HB := n2_
                  clear n0_ n1_ n2_
                  by_cases c7 : t1 = true
                  · subst c7
                    replace H : ((impl_nodeThere.f k1 l1 e3 e4).bind fun t2 => if t2 = true then impl_edgesOk.l0 k1 l0 l1 (m.set (e0 : Int).toNat (wrap64 (rd m e0 + 1))) (wrap64 (x10 + 1)) else some false) = some r := by rw [if_pos rfl] at H; exact H
                    replace H := Option.bind_eq_some_iff.mp H
                    obtain ⟨t2, A20, H⟩ := H
                    have A2 := Aside0.mk A20
                    clear A20
                    have hcz0 : w20.cell? ⟨gn, 0, none⟩ = some (.int .i64 e0) := (blk_cell BN.out 0).trans rfl
                    have hcz1 : w20.cell? ⟨gn, 1, none⟩ = some (.int .i64 e1) := (blk_cell BN.out 1).trans rfl
                    have hcz2 : w20.cell? ⟨gn, 2, none⟩ = some (.int .i64 e2) := (blk_cell BN.out 2).trans rfl
                    have hcz3 : w20.cell? ⟨gn, 3, none⟩ = some (.int .i64 e3) := (blk_cell BN.out 3).trans rfl
                    have hcz4 : w20.cell? ⟨gn, 4, none⟩ = some (.int .i64 e4) := (blk_cell BN.out 4).trans rfl
                    go_wp2_with fail
                    refine (impl_nodeThere.calls k1 _ _ l1 e3 e4 t2 _ ?side1 HC1.out A2.out).mono ?_
                    case side1 => repeat (first | exact (Kd.C_below HR1.out HB.out) | (with_reducible refine Kd.C_alloc ?_ _) | (with_reducible refine Kd.C_drewN ?_ _) | (with_reducible refine Kd.C_drew ?_))
                    rintro e w21 ⟨rfl, hb⟩
                    clear hcz0 hcz1 hcz2 hcz3 hcz4
                    have n0_ := Aside0.mk (blk_below BK.out hb)
                    have n1_ := Aside0.mk (blk_below BN.out hb)
                    have n2_ := Aside0.mk (below_step (by repeat (first | (with_reducible first | exact HB.out | apply below_alloc | apply pw_below_drewN | apply below_drew1 | refine below_set ?_ GE.out) | exact HB.out)) hb)
                    clear BK BN HB hb
                    have BK := n0_
                    have BN := n1_
                    have HB := n2_
                    clear n0_ n1_ n2_
                    by_cases c8 : t2 = true
                    · subst c8
                      replace H : impl_edgesOk.l0 k1 l0 l1 (m.set (e0 : Int).toNat (wrap64 (rd m e0 + 1))) (wrap64 (x10 + 1)) = some r := by rw [if_pos rfl] at H; exact H
                      have H' := Aside0.mk H
                      clear H
                      obtain ⟨j, rfl⟩ := Int.eq_ofNat_of_zero_le HL.out.1
                      have hcz0 : w21.cell? ⟨gn, 0, none⟩ = some (.int .i64 (j : Int)) := (blk_cell BN.out 0).trans rfl
                      have hj8 : j < 8 := by have := HL.out.2; omega
                      have hjm : j < m.length := by have := HM.out; omega
                      have hcm : w21.cell? ⟨gb, j, none⟩ = some (.int .i64 (rd m j)) := (blk_cell BK.out j).trans (cts_get m j hjm)
                      have hfm := blk_frozen BK.out j
                      have hlo : (0 ≤ (j : Int)) = True := eq_true (by omega)
                      have hhi : ((j : Int) < 8) = True := eq_true (by omega)
                      go_wp2
                      go_roundg k1
                      case measure => have := HK1.out; omega
                      case rel => exact ⟨wrap64 (x10 + 1), m.set j (wrap64 (rd m (j : Int) + 1)), (by first | rfl | (simp; done) | (simp [*]; done)), ⟨by simpa using H'.out⟩, ⟨by simpa using HM.out⟩, ⟨by have := HK1.out; omega⟩, ⟨by refine blk_put ?_ j _ (cts_set m j _); (with_reducible repeat (first | refine blk_drewN ?_ _ | refine blk_drew ?_ | refine blk_alloc ?_ _)); exact BK.out⟩, ⟨by repeat (first | (with_reducible first | exact HB.out | apply below_alloc | apply pw_below_drewN | apply below_drew1 | refine below_set ?_ GE.out) | exact HB.out)⟩⟩
                    · replace c8 := Bool.eq_false_iff.mpr c8
                      subst c8
                      replace H : some false = some r := by rw [if_neg (by decide)] at H; exact H
                      obtain rfl := Option.some.inj H
                      go_wp2
                      go_ret
                      exact ⟨by first | rfl | (simp; done) | (simp [*]; done), by repeat (first | (with_reducible first | exact HB.out | apply below_alloc | apply pw_below_drewN | apply below_drew1 | refine below_set ?_ GE.out) | exact HB.out)⟩
                  · replace c7 := Bool.eq_false_iff.mpr c7
                    subst c7
                    replace H : some false = some r := by rw [if_neg (by decide)] at H; exact H
                    obtain rfl := Option.some.inj H
                    go_wp2
                    go_ret
                    exact ⟨by first | rfl | (simp; done) | (simp [*]; done), by repeat (first | (with_reducible first | exact HB.out | apply below_alloc | apply pw_below_drewN | apply below_drew1 | refine below_set ?_ GE.out) | exact HB.out)⟩
              · rw [if_neg c5] at H
                have c5b0 : decide (0 < x10) = false := decide_eq_false c5
                clear c5
                go_wp2
                refine wp_region_bel (by kernel_rfl) (by kernel_rfl) ?_
                clear hcz0 hcz1 hcz2 hcz3 hcz4 hcm hfm hlo hhi hn8
                have n0_ := Aside0.mk (blk_drew BK.out)
                have n1_ := Aside0.mk (blk_drew BN.out)
                have n2_ := Aside0.mk (below_drew1 HB.out)
                clear BK BN HB
                have BK := n0_
                have BN := n1_
                have HB := n2_
                clear n0_ n1_ n2_
                generalize w7.drew = w8 at BK BN HB ⊢
                repeat (go_big_quiet_step (fail))
                refine wpQuiet_nil ?_
                intro w9 hw'
                obtain ⟨⟨wq_, hb⟩, hw''⟩ := hw'
                subst hw''
                have n0_ := Aside0.mk (blk_below BK.out hb)
                have n1_ := Aside0.mk (blk_below BN.out hb)
                have n2_ := Aside0.mk (below_step (by repeat (first | (with_reducible first | exact HB.out | apply below_alloc | apply pw_below_drewN | apply below_drew1 | refine below_set ?_ GE.out) | exact HB.out)) hb)
                clear BK BN HB hb
                have BK := n0_
                have BN := n1_
                have HB := n2_
                clear n0_ n1_ n2_
                replace H := Option.bind_eq_some_iff.mp H
                obtain ⟨t1, A10, H⟩ := H
                have A1 := Aside0.mk A10
                clear A10
                have hcz0 : w9.cell? ⟨gn, 0, none⟩ = some (.int .i64 e0) := (blk_cell BN.out 0).trans rfl
                have hcz1 : w9.cell? ⟨gn, 1, none⟩ = some (.int .i64 e1) := (blk_cell BN.out 1).trans rfl
                have hcz2 : w9.cell? ⟨gn, 2, none⟩ = some (.int .i64 e2) := (blk_cell BN.out 2).trans rfl
                have hcz3 : w9.cell? ⟨gn, 3, none⟩ = some (.int .i64 e3) := (blk_cell BN.out 3).trans rfl
                have hcz4 : w9.cell? ⟨gn, 4, none⟩ = some (.int .i64 e4) := (blk_cell BN.out 4).trans rfl
                go_wp2_with fail
                refine (impl_nodeThere.calls k1 _ _ l1 e1 e2 t1 _ ?side1 HC1.out A1.out).mono ?_
                case side1 => repeat (first | exact (Kd.C_below HR1.out HB.out) | (with_reducible refine Kd.C_alloc ?_ _) | (with_reducible refine Kd.C_drewN ?_ _) | (with_reducible refine Kd.C_drew ?_))
                rintro e w20 ⟨rfl, hb⟩
                clear hcz0 hcz1 hcz2 hcz3 hcz4
                have n0_ := Aside0.mk (blk_below BK.out hb)
                have n1_ := Aside0.mk (blk_below BN.out hb)
                have n2_ := Aside0.mk (below_step (by repeat (first | (with_reducible first | exact HB.out | apply below_alloc | apply pw_below_drewN | apply below_drew1 | refine below_set ?_ GE.out) | exact HB.out)) hb)
                clear BK BN HB hb
                have BK := n0_
                have BN := n1_
                have HB := n2_
                clear n0_ n1_ n2_
                by_cases c7 : t1 = true
                · subst c7
                  replace H : ((impl_nodeThere.f k1 l1 e3 e4).bind fun t2 => if t2 = true then impl_edgesOk.l0 k1 l0 l1 (m.set (e0 : Int).toNat (wrap64 (rd m e0 + 1))) (wrap64 (x10 + 1)) else some false) = some r := by rw [if_pos rfl] at H; exact H
                  replace H := Option.bind_eq_some_iff.mp H
                  obtain ⟨t2, A20, H⟩ := H
                  have A2 := Aside0.mk A20
                  clear A20
                  have hcz0 : w20.cell? ⟨gn, 0, none⟩ = some (.int .i64 e0) := (blk_cell BN.out 0).trans rfl
                  have hcz1 : w20.cell? ⟨gn, 1, none⟩ = some (.int .i64 e1) := (blk_cell BN.out 1).trans rfl
                  have hcz2 : w20.cell? ⟨gn, 2, none⟩ = some (.int .i64 e2) := (blk_cell BN.out 2).trans rfl
                  have hcz3 : w20.cell? ⟨gn, 3, none⟩ = some (.int .i64 e3) := (blk_cell BN.out 3).trans rfl
                  have hcz4 : w20.cell? ⟨gn, 4, none⟩ = some (.int .i64 e4) := (blk_cell BN.out 4).trans rfl
                  go_wp2_with fail
                  refine (impl_nodeThere.calls k1 _ _ l1 e3 e4 t2 _ ?side1 HC1.out A2.out).mono ?_
                  case side1 => repeat (first | exact (Kd.C_below HR1.out HB.out) | (with_reducible refine Kd.C_alloc ?_ _) | (with_reducible refine Kd.C_drewN ?_ _) | (with_reducible refine Kd.C_drew ?_))
                  rintro e w21 ⟨rfl, hb⟩
                  clear hcz0 hcz1 hcz2 hcz3 hcz4
                  have n0_ := Aside0.mk (blk_below BK.out hb)
                  have n1_ := Aside0.mk (blk_below BN.out hb)
                  have n2_ := Aside0.mk (below_step (by repeat (first | (with_reducible first | exact HB.out | apply below_alloc | apply pw_below_drewN | apply below_drew1 | refine below_set ?_ GE.out) | exact HB.out)) hb)
                  clear BK BN HB hb
                  have BK := n0_
                  have BN := n1_
                  have HB := n2_
                  clear n0_ n1_ n2_
                  by_cases c8 : t2 = true
                  · subst c8
                    replace H : impl_edgesOk.l0 k1 l0 l1 (m.set (e0 : Int).toNat (wrap64 (rd m e0 + 1))) (wrap64 (x10 + 1)) = some r := by rw [if_pos rfl] at H; exact H
                    have H' := Aside0.mk H
                    clear H
                    obtain ⟨j, rfl⟩ := Int.eq_ofNat_of_zero_le HL.out.1
                    have hcz0 : w21.cell? ⟨gn, 0, none⟩ = some (.int .i64 (j : Int)) := (blk_cell BN.out 0).trans rfl
                    have hj8 : j < 8 := by have := HL.out.2; omega
                    have hjm : j < m.length := by have := HM.out; omega
                    have hcm : w21.cell? ⟨gb, j, none⟩ = some (.int .i64 (rd m j)) := (blk_cell BK.out j).trans (cts_get m j hjm)
                    have hfm := blk_frozen BK.out j
                    have hlo : (0 ≤ (j : Int)) = True := eq_true (by omega)
                    have hhi : ((j : Int) < 8) = True := eq_true (by omega)
                    go_wp2
                    go_roundg k1
                    case measure => have := HK1.out; omega
                    case rel => exact ⟨wrap64 (x10 + 1), m.set j (wrap64 (rd m (j : Int) + 1)), (by first | rfl | (simp; done) | (simp [*]; done)), ⟨by simpa using H'.out⟩, ⟨by simpa using HM.out⟩, ⟨by have := HK1.out; omega⟩, ⟨by refine blk_put ?_ j _ (cts_set m j _); (with_reducible repeat (first | refine blk_drewN ?_ _ | refine blk_drew ?_ | refine blk_alloc ?_ _)); exact BK.out⟩, ⟨by repeat (first | (with_reducible first | exact HB.out | apply below_alloc | apply pw_below_drewN | apply below_drew1 | refine below_set ?_ GE.out) | exact HB.out)⟩⟩
                  · replace c8 := Bool.eq_false_iff.mpr c8
                    subst c8
                    replace H : some false = some r := by rw [if_neg (by decide)] at H; exact H
                    obtain rfl := Option.some.inj H
                    go_wp2
                    go_ret
                    exact ⟨by first | rfl | (simp; done) | (simp [*]; done), by repeat (first | (with_reducible first | exact HB.out | apply below_alloc | apply pw_below_drewN | apply below_drew1 | refine below_set ?_ GE.out) | exact HB.out)⟩
                · replace c7 := Bool.eq_false_iff.mpr c7
                  subst c7
                  replace H : some false = some r := by rw [if_neg (by decide)] at H; exact H
                  obtain rfl := Option.some.inj H
                  go_wp2
                  go_ret
                  exact ⟨by first | rfl | (simp; done) | (simp [*]; done), by repeat (first | (with_reducible first | exact HB.out | apply below_alloc | apply pw_below_drewN | apply below_drew1 | refine below_set ?_ GE.out) | exact HB.out)⟩
          · rw [if_neg c3] at H
            replace c3 := Bool.eq_false_iff.mpr c3
            obtain rfl := Option.some.inj H
            rw [c3]
            go_wp2
            go_ret
            exact ⟨by first | rfl | (simp; done) | (simp [*]; done), by repeat (first | (with_reducible first | exact HB.out | apply below_alloc | apply pw_below_drewN | apply below_drew1 | refine below_set ?_ GE.out) | exact HB.out)⟩
        · rw [if_neg c2] at H; cases H
      · rw [if_neg c1] at H
        have c1b0 : decide (x10 < (l0.length : Int)) = false := decide_eq_false c1
        clear c1
        obtain rfl := Option.some.inj H
        go_wp2
        go_ret
        exact ⟨by first | rfl | (simp; done) | (simp [*]; done), by repeat (first | (with_reducible first | exact HB.out | apply below_alloc | apply pw_below_drewN | apply below_drew1 | refine below_set ?_ GE.out) | exact HB.out)⟩

/-! ### impl_GraphOk: function 34 -/
def impl_GraphOk.f (k : Nat) (l0_0 : List (S36)) (l0_1 : List (S56)) : Option (Bool) := (impl_nodesOk.f k l0_0).bind fun t218 => (if t218 = true then ((impl_edgesOk.f k l0_1 l0_0).bind fun t219 => (some t219)) else (some false))
theorem impl_GraphOk.mono : ∀ a0 a1 k, LeO (impl_GraphOk.f k a0 a1) (impl_GraphOk.f (k + 1) a0 a1) := by
  intro a0 a1 k
  unfold impl_GraphOk.f
  repeat' first
      | (with_reducible exact impl_edgesOk.mono _ _ _)
      | (with_reducible exact impl_nodesOk.mono _ _)
      | (with_reducible exact LeO.refl _)
      | (with_reducible exact LeO.none _)
      | (with_reducible refine LeO.ite ?_ ?_)
      | (with_reducible refine LeO.bind ?_ (fun _ => ?_))
      | exact impl_edgesOk.mono _ _ _
      | exact impl_nodesOk.mono _ _
      | exact LeO.none _
      | refine LeO.ite ?_ ?_
      | refine LeO.bind ?_ (fun _ => ?_)
set_option maxHeartbeats 8000000 in
set_option maxRecDepth 100000 in
theorem impl_GraphOk.calls (k : Nat) (A0_0 : Option Addr) (c0_0 : Nat) (l0_0 : List (S36)) (A0_1 : Option Addr) (c0_1 : Nat) (l0_1 : List (S56)) (r : Bool) (w : World) (hr0_0 : Kd.C k36 w A0_0 l0_0.length l0_0) (hc0_0 : l0_0.length ≤ c0_0) (hr0_1 : Kd.C k56 w A0_1 l0_1.length l0_1) (hc0_1 : l0_1.length ≤ c0_1) (h : impl_GraphOk.f k l0_0 l0_1 = some r) :
    Calls Try.prog 34 #[.agg #[.slice A0_0 l0_0.length c0_0, .slice A0_1 l0_1.length c0_1]] w fun e w' => e = .returned (.bool r) ∧ Below w.heap.size w w' := by
  have hu34 := Try.underlying34
  have HR0_0 := Aside0.mk hr0_0
  have HC0_0 := Aside0.mk hc0_0
  clear hr0_0 hc0_0
  have HR0_1 := Aside0.mk hr0_1
  have HC0_1 := Aside0.mk hc0_1
  clear hr0_1 hc0_1
  have HB := Aside0.mk (Below.refl w.heap.size w)
  have H : ((impl_nodesOk.f k l0_0).bind fun t218 => (if t218 = true then ((impl_edgesOk.f k l0_1 l0_0).bind fun t219 => (some t219)) else (some false))) = some r := h
  clear h
  replace H := Option.bind_eq_some_iff.mp H
  obtain ⟨t218, A20, H⟩ := H
  replace H : (if t218 = true then ((impl_edgesOk.f k l0_1 l0_0).bind fun t219 => (some t219)) else (some false)) = some r := H
  have A2 := Aside0.mk A20
  clear A20
  by_cases c3 : t218 = true
  · subst c3
    have H1 : ((impl_edgesOk.f k l0_1 l0_0).bind fun t219 => (some t219)) = some r := by rw [if_pos rfl] at H; exact H
    clear H
    have H := H1
    clear H1
    replace H := Option.bind_eq_some_iff.mp H
    obtain ⟨t219, A40, H⟩ := H
    replace H : (some t219) = some r := H
    have A4 := Aside0.mk A40
    clear A40
    obtain rfl := Option.some.inj H
    go_enter Try.func34, Try.ntmps34
    go_wp2_with (first | ((with_reducible refine gate_dst (N := 1) rfl ?_); refine box_event ?hg (N := 1) ?hd (cs := #[.slice A0_0 l0_0.length c0_0, .slice A0_1 l0_1.length c0_1]) (t := 34) ?hr ?_; (case hd => rfl); (case hg => rfl); (case hr => first | (go_simp; done) | (go_simp; rfl)); intro gb217 hg w5 hbox hb; have n0_ := Aside0.mk (below_step (by repeat (first | (with_reducible first | exact HB.out | apply below_alloc | apply pw_below_drewN | apply below_drew1) | exact HB.out)) hb); have n1_ := Aside0.mk (hbox); have n2_ := Aside0.mk ((by rw [hg]; exact (below_size (by repeat (first | (with_reducible first | exact HB.out | apply below_alloc | apply pw_below_drewN | apply below_drew1) | exact HB.out))) : w.heap.size ≤ gb217)); have n3_ := Aside0.mk ((by rw [hg]; exact (below_size (by repeat (first | (with_reducible first | exact HB.out | apply below_alloc | apply pw_below_drewN | apply below_drew1) | exact HB.out))) : w.heap.size ≤ gb217)); clear HB; have HB := n0_; have BK217 := n1_; have GW217 := n2_; have GE217 := n3_; clear n0_ n1_ n2_ n3_; clear hb hbox hg; have hcz6_0 : w5.cell? ⟨gb217, 0, none⟩ = some (.slice A0_0 l0_0.length c0_0) := (blk_cell BK217.out 0).trans rfl; have hcz6_1 : w5.cell? ⟨gb217, 1, none⟩ = some (.slice A0_1 l0_1.length c0_1) := (blk_cell BK217.out 1).trans rfl; have hfz6_0 := blk_frozen BK217.out 0; have hfz6_1 := blk_frozen BK217.out 1) | ((with_reducible refine gate_callee (f := 81) rfl ?_); refine goesL_ (some 5) rfl rfl Try.func81 (by kernel_rfl) rfl #[.slice A0_0 l0_0.length c0_0] rfl (by (try simp only [List.map_toArray, List.map_cons, List.map_nil]); first | done | rfl | (simp only [List.length_drop, List.length_take]; rfl)) ?_; (with_reducible refine (impl_nodesOk.calls k _ _ l0_0 true _ ?side1 ?side2 A2.out).mono ?_); (case side1 => repeat (first | exact (Kd.C_below HR0_0.out HB.out) | (with_reducible refine Kd.C_alloc ?_ _) | (with_reducible refine Kd.C_drewN ?_ _) | (with_reducible refine Kd.C_drew ?_))); (case side2 => exact HC0_0.out); rintro e w7 ⟨rfl, hb⟩; refine ⟨_, rfl, ?_⟩; have n0_ := Aside0.mk (blk_below (g := gb217) (o := .cells #[.slice A0_0 l0_0.length c0_0, .slice A0_1 l0_1.length c0_1] 34 (0, 0)) (by (with_reducible repeat (first | refine blk_drewN ?_ _ | refine blk_drew ?_ | refine blk_alloc ?_ _)); exact BK217.out) hb); have n1_ := Aside0.mk (below_step (by repeat (first | (with_reducible first | exact HB.out | apply below_alloc | apply pw_below_drewN | apply below_drew1 | refine below_set ?_ GE217.out) | exact HB.out)) hb); clear BK217; clear HB; have BK217 := n0_; have HB := n1_; clear n0_ n1_; (try clear hb); (try clear hb2); (try clear hk); (try clear hi); have hcz8_0 : w7.cell? ⟨gb217, 0, none⟩ = some (.slice A0_0 l0_0.length c0_0) := (blk_cell BK217.out 0).trans rfl; have hcz8_1 : w7.cell? ⟨gb217, 1, none⟩ = some (.slice A0_1 l0_1.length c0_1) := (blk_cell BK217.out 1).trans rfl; have hfz8_0 := blk_frozen BK217.out 0; have hfz8_1 := blk_frozen BK217.out 1) | (go_at_call 82; (with_reducible refine (impl_edgesOk.calls k _ _ l0_1 _ _ l0_0 t219 _ ?side1 ?side2 ?side3 ?side4 A4.out).mono ?_); (case side1 => repeat (first | exact (Kd.C_below HR0_1.out HB.out) | (with_reducible refine Kd.C_alloc ?_ _) | (with_reducible refine Kd.C_drewN ?_ _) | (with_reducible refine Kd.C_drew ?_))); (case side2 => exact HC0_1.out); (case side3 => repeat (first | exact (Kd.C_below HR0_0.out HB.out) | (with_reducible refine Kd.C_alloc ?_ _) | (with_reducible refine Kd.C_drewN ?_ _) | (with_reducible refine Kd.C_drew ?_))); (case side4 => exact HC0_0.out); rintro e w9 ⟨rfl, hb⟩; have n0_ := Aside0.mk (blk_below (g := gb217) (o := .cells #[.slice A0_0 l0_0.length c0_0, .slice A0_1 l0_1.length c0_1] 34 (0, 0)) (by (with_reducible repeat (first | refine blk_drewN ?_ _ | refine blk_drew ?_ | refine blk_alloc ?_ _)); exact BK217.out) hb); have n1_ := Aside0.mk (below_step (by repeat (first | (with_reducible first | exact HB.out | apply below_alloc | apply pw_below_drewN | apply below_drew1 | refine below_set ?_ GE217.out) | exact HB.out)) hb); clear BK217; clear HB; have BK217 := n0_; have HB := n1_; clear n0_ n1_; (try clear hb); (try clear hb2); (try clear hk); (try clear hi)))
    go_ret
    exact ⟨by first | rfl | (simp [errW_none, errW_some] <;> rfl) | (simp [*, errW_none, errW_some] <;> rfl), by repeat (first | (with_reducible first | exact HB.out | apply below_alloc | apply pw_below_drewN | apply below_drew1 | refine below_set ?_ GE217.out) | exact HB.out)⟩
  · replace c3 := Bool.eq_false_iff.mpr c3
    subst c3
    have H1 : (some false) = some r := by rw [if_neg (show ¬ (false = true) by decide)] at H; exact H
    clear H
    have H := H1
    clear H1
    obtain rfl := Option.some.inj H
    go_enter Try.func34, Try.ntmps34
    go_wp2_with (first | ((with_reducible refine gate_dst (N := 1) rfl ?_); refine box_event ?hg (N := 1) ?hd (cs := #[.slice A0_0 l0_0.length c0_0, .slice A0_1 l0_1.length c0_1]) (t := 34) ?hr ?_; (case hd => rfl); (case hg => rfl); (case hr => first | (go_simp; done) | (go_simp; rfl)); intro gb217 hg w10 hbox hb; have n0_ := Aside0.mk (below_step (by repeat (first | (with_reducible first | exact HB.out | apply below_alloc | apply pw_below_drewN | apply below_drew1) | exact HB.out)) hb); have n1_ := Aside0.mk (hbox); have n2_ := Aside0.mk ((by rw [hg]; exact (below_size (by repeat (first | (with_reducible first | exact HB.out | apply below_alloc | apply pw_below_drewN | apply below_drew1) | exact HB.out))) : w.heap.size ≤ gb217)); have n3_ := Aside0.mk ((by rw [hg]; exact (below_size (by repeat (first | (with_reducible first | exact HB.out | apply below_alloc | apply pw_below_drewN | apply below_drew1) | exact HB.out))) : w.heap.size ≤ gb217)); clear HB; have HB := n0_; have BK217 := n1_; have GW217 := n2_; have GE217 := n3_; clear n0_ n1_ n2_ n3_; clear hb hbox hg; have hcz11_0 : w10.cell? ⟨gb217, 0, none⟩ = some (.slice A0_0 l0_0.length c0_0) := (blk_cell BK217.out 0).trans rfl; have hcz11_1 : w10.cell? ⟨gb217, 1, none⟩ = some (.slice A0_1 l0_1.length c0_1) := (blk_cell BK217.out 1).trans rfl; have hfz11_0 := blk_frozen BK217.out 0; have hfz11_1 := blk_frozen BK217.out 1) | ((with_reducible refine gate_callee (f := 81) rfl ?_); refine goesL_ (some 5) rfl rfl Try.func81 (by kernel_rfl) rfl #[.slice A0_0 l0_0.length c0_0] rfl (by (try simp only [List.map_toArray, List.map_cons, List.map_nil]); first | done | rfl | (simp only [List.length_drop, List.length_take]; rfl)) ?_; (with_reducible refine (impl_nodesOk.calls k _ _ l0_0 false _ ?side1 ?side2 A2.out).mono ?_); (case side1 => repeat (first | exact (Kd.C_below HR0_0.out HB.out) | (with_reducible refine Kd.C_alloc ?_ _) | (with_reducible refine Kd.C_drewN ?_ _) | (with_reducible refine Kd.C_drew ?_))); (case side2 => exact HC0_0.out); rintro e w12 ⟨rfl, hb⟩; refine ⟨_, rfl, ?_⟩; have n0_ := Aside0.mk (blk_below (g := gb217) (o := .cells #[.slice A0_0 l0_0.length c0_0, .slice A0_1 l0_1.length c0_1] 34 (0, 0)) (by (with_reducible repeat (first | refine blk_drewN ?_ _ | refine blk_drew ?_ | refine blk_alloc ?_ _)); exact BK217.out) hb); have n1_ := Aside0.mk (below_step (by repeat (first | (with_reducible first | exact HB.out | apply below_alloc | apply pw_below_drewN | apply below_drew1 | refine below_set ?_ GE217.out) | exact HB.out)) hb); clear BK217; clear HB; have BK217 := n0_; have HB := n1_; clear n0_ n1_; (try clear hb); (try clear hb2); (try clear hk); (try clear hi)))
    go_ret
    exact ⟨by first | rfl | (simp [errW_none, errW_some] <;> rfl) | (simp [*, errW_none, errW_some] <;> rfl), by repeat (first | (with_reducible first | exact HB.out | apply below_alloc | apply pw_below_drewN | apply below_drew1 | refine below_set ?_ GE217.out) | exact HB.out)⟩

/-! ### laws_FnExactGraphOk: function 6 -/
def laws_FnExactGraphOk.f (k : Nat) (l0_0 : List (S27)) (l0_1 : List (S70)) : Option (Bool) := (laws_szGraph.f l0_0 l0_1 1048576).bind fun t221 => (if t221 < 0 then (some true) else ((laws_toGraph.f k l0_0 l0_1).bind fun bt222 => ((spec_GraphOk.f k bt222.1 bt222.2).bind fun t228 => ((laws_toGraph.f k l0_0 l0_1).bind fun bt229 => ((impl_GraphOk.f k bt229.1 bt229.2).bind fun t236 => (if (t236 != t228) = true then (some false) else ((laws_toGraph.f k l0_0 l0_1).bind fun bt237 => ((laws_eqGraph.f k bt229.1 bt229.2 bt237.1 bt237.2).bind fun t243 => (if t243 = true then (some true) else (some false))))))))))
theorem laws_FnExactGraphOk.mono : ∀ a0 a1 k, LeO (laws_FnExactGraphOk.f k a0 a1) (laws_FnExactGraphOk.f (k + 1) a0 a1) := by
  intro a0 a1 k
  unfold laws_FnExactGraphOk.f
  repeat' first
      | (with_reducible exact impl_GraphOk.mono _ _ _)
      | (with_reducible exact laws_eqGraph.mono _ _ _ _ _)
      | (with_reducible exact laws_toGraph.mono _ _ _)
      | (with_reducible exact spec_GraphOk.mono _ _ _)
      | (with_reducible exact LeO.refl _)
      | (with_reducible exact LeO.none _)
      | (with_reducible refine LeO.ite ?_ ?_)
      | (with_reducible refine LeO.bind ?_ (fun _ => ?_))
      | exact impl_GraphOk.mono _ _ _
      | exact laws_eqGraph.mono _ _ _ _ _
      | exact laws_toGraph.mono _ _ _
      | exact spec_GraphOk.mono _ _ _
      | exact LeO.none _
      | refine LeO.ite ?_ ?_
      | refine LeO.bind ?_ (fun _ => ?_)
set_option maxHeartbeats 8000000 in
set_option maxRecDepth 100000 in
theorem laws_FnExactGraphOk.calls (k : Nat) (A0_0 : Option Addr) (c0_0 : Nat) (l0_0 : List (S27)) (A0_1 : Option Addr) (c0_1 : Nat) (l0_1 : List (S70)) (r : Bool) (hT : Aside0 (r = true)) (w : World) (hr0_0 : Kd.C k27 w A0_0 l0_0.length l0_0) (hc0_0 : l0_0.length ≤ c0_0) (hr0_1 : Kd.C k70 w A0_1 l0_1.length l0_1) (hc0_1 : l0_1.length ≤ c0_1) (h : laws_FnExactGraphOk.f k l0_0 l0_1 = some r) :
    Calls Try.prog 6 #[.agg #[.slice A0_0 l0_0.length c0_0, .slice A0_1 l0_1.length c0_1]] w fun e w' => e = .returned (.bool r) ∧ Below w.heap.size w w' := by
  have hu25 := Try.underlying25
  have hu34 := Try.underlying34
  have HR0_0 := Aside0.mk hr0_0
  have HC0_0 := Aside0.mk hc0_0
  clear hr0_0 hc0_0
  have HR0_1 := Aside0.mk hr0_1
  have HC0_1 := Aside0.mk hc0_1
  clear hr0_1 hc0_1
  have HB := Aside0.mk (Below.refl w.heap.size w)
  have H : ((laws_szGraph.f l0_0 l0_1 1048576).bind fun t221 => (if t221 < 0 then (some true) else ((laws_toGraph.f k l0_0 l0_1).bind fun bt222 => ((spec_GraphOk.f k bt222.1 bt222.2).bind fun t228 => ((laws_toGraph.f k l0_0 l0_1).bind fun bt229 => ((impl_GraphOk.f k bt229.1 bt229.2).bind fun t236 => (if (t236 != t228) = true then (some false) else ((laws_toGraph.f k l0_0 l0_1).bind fun bt237 => ((laws_eqGraph.f k bt229.1 bt229.2 bt237.1 bt237.2).bind fun t243 => (if t243 = true then (some true) else (some false))))))))))) = some r := h
  clear h
  replace H := Option.bind_eq_some_iff.mp H
  obtain ⟨t221, A20, H⟩ := H
  replace H : (if t221 < 0 then (some true) else ((laws_toGraph.f k l0_0 l0_1).bind fun bt222 => ((spec_GraphOk.f k bt222.1 bt222.2).bind fun t228 => ((laws_toGraph.f k l0_0 l0_1).bind fun bt229 => ((impl_GraphOk.f k bt229.1 bt229.2).bind fun t236 => (if (t236 != t228) = true then (some false) else ((laws_toGraph.f k l0_0 l0_1).bind fun bt237 => ((laws_eqGraph.f k bt229.1 bt229.2 bt237.1 bt237.2).bind fun t243 => (if t243 = true then (some true) else (some false)))))))))) = some r := H
  have A2 := Aside0.mk A20
  clear A20
  by_cases c3 : t221 < 0
  · rw [if_pos c3] at H
    have c3b0 : decide (t221 < 0) = true := decide_eq_true c3
    clear c3
    obtain rfl := Option.some.inj H
    go_enter Try.func6, Try.ntmps6
    go_wp2_with (first | ((with_reducible refine gate_dst (N := 1) rfl ?_); refine box_event ?hg (N := 1) ?hd (cs := #[.slice A0_0 l0_0.length c0_0, .slice A0_1 l0_1.length c0_1]) (t := 25) ?hr ?_; (case hd => rfl); (case hg => rfl); (case hr => first | (go_simp; done) | (go_simp; rfl)); intro gb220 hg w4 hbox hb; have n0_ := Aside0.mk (below_step (by repeat (first | (with_reducible first | exact HB.out | apply below_alloc | apply pw_below_drewN | apply below_drew1) | exact HB.out)) hb); have n1_ := Aside0.mk (hbox); have n2_ := Aside0.mk ((by rw [hg]; exact (below_size (by repeat (first | (with_reducible first | exact HB.out | apply below_alloc | apply pw_below_drewN | apply below_drew1) | exact HB.out))) : w.heap.size ≤ gb220)); have n3_ := Aside0.mk ((by rw [hg]; exact (below_size (by repeat (first | (with_reducible first | exact HB.out | apply below_alloc | apply pw_below_drewN | apply below_drew1) | exact HB.out))) : w.heap.size ≤ gb220)); clear HB; have HB := n0_; have BK220 := n1_; have GW220 := n2_; have GE220 := n3_; clear n0_ n1_ n2_ n3_; clear hb hbox hg; have hcz5_0 : w4.cell? ⟨gb220, 0, none⟩ = some (.slice A0_0 l0_0.length c0_0) := (blk_cell BK220.out 0).trans rfl; have hcz5_1 : w4.cell? ⟨gb220, 1, none⟩ = some (.slice A0_1 l0_1.length c0_1) := (blk_cell BK220.out 1).trans rfl; have hfz5_0 := blk_frozen BK220.out 0; have hfz5_1 := blk_frozen BK220.out 1) | ((with_reducible refine gate_callee (f := 16) rfl ?_); refine goesL_ (some 9) rfl rfl Try.func16 (by kernel_rfl) rfl #[.agg #[.slice A0_0 l0_0.length c0_0, .slice A0_1 l0_1.length c0_1], .int .i64 1048576] rfl (by (try simp only [List.map_toArray, List.map_cons, List.map_nil]); first | done | rfl | (simp only [List.length_drop, List.length_take]; rfl)) ?_; (with_reducible refine (laws_szGraph.calls _ _ l0_0 _ _ l0_1 1048576 t221 _ ?side1 ?side2 ?side3 ?side4 A2.out).mono ?_); (case side1 => repeat (first | exact (Kd.C_below HR0_0.out HB.out) | (with_reducible refine Kd.C_alloc ?_ _) | (with_reducible refine Kd.C_drewN ?_ _) | (with_reducible refine Kd.C_drew ?_))); (case side2 => exact HC0_0.out); (case side3 => repeat (first | exact (Kd.C_below HR0_1.out HB.out) | (with_reducible refine Kd.C_alloc ?_ _) | (with_reducible refine Kd.C_drewN ?_ _) | (with_reducible refine Kd.C_drew ?_))); (case side4 => exact HC0_1.out); rintro e w6 ⟨rfl, hb⟩; refine ⟨_, rfl, ?_⟩; have n0_ := Aside0.mk (blk_below (g := gb220) (o := .cells #[.slice A0_0 l0_0.length c0_0, .slice A0_1 l0_1.length c0_1] 25 (0, 0)) (by (with_reducible repeat (first | refine blk_drewN ?_ _ | refine blk_drew ?_ | refine blk_alloc ?_ _)); exact BK220.out) hb); have n1_ := Aside0.mk (below_step (by repeat (first | (with_reducible first | exact HB.out | apply below_alloc | apply pw_below_drewN | apply below_drew1 | refine below_set ?_ GE220.out) | exact HB.out)) hb); clear BK220; clear HB; have BK220 := n0_; have HB := n1_; clear n0_ n1_; (try clear hb); (try clear hb2); (try clear hk); (try clear hi)))
    go_ret
    exact ⟨by first | rfl | (simp [errW_none, errW_some] <;> rfl) | (simp [*, errW_none, errW_some] <;> rfl), by repeat (first | (with_reducible first | exact HB.out | apply below_alloc | apply pw_below_drewN | apply below_drew1 | refine below_set ?_ GE220.out) | exact HB.out)⟩
  · rw [if_neg c3] at H
    have c3b0 : decide (t221 < 0) = false := decide_eq_false c3
    clear c3
    replace H := Option.bind_eq_some_iff.mp H
    obtain ⟨⟨t222, t225⟩, A70, H⟩ := H
    replace H : ((spec_GraphOk.f k t222 t225).bind fun t228 => ((laws_toGraph.f k l0_0 l0_1).bind fun bt229 => ((impl_GraphOk.f k bt229.1 bt229.2).bind fun t236 => (if (t236 != t228) = true then (some false) else ((laws_toGraph.f k l0_0 l0_1).bind fun bt237 => ((laws_eqGraph.f k bt229.1 bt229.2 bt237.1 bt237.2).bind fun t243 => (if t243 = true then (some true) else (some false)))))))) = some r := H
    have A7 := Aside0.mk A70
    clear A70
    replace H := Option.bind_eq_some_iff.mp H
    obtain ⟨t228, A80, H⟩ := H
    replace H : ((laws_toGraph.f k l0_0 l0_1).bind fun bt229 => ((impl_GraphOk.f k bt229.1 bt229.2).bind fun t236 => (if (t236 != t228) = true then (some false) else ((laws_toGraph.f k l0_0 l0_1).bind fun bt237 => ((laws_eqGraph.f k bt229.1 bt229.2 bt237.1 bt237.2).bind fun t243 => (if t243 = true then (some true) else (some false))))))) = some r := H
    have A8 := Aside0.mk A80
    clear A80
    replace H := Option.bind_eq_some_iff.mp H
    obtain ⟨⟨t229, t232⟩, A90, H⟩ := H
    replace H : ((impl_GraphOk.f k t229 t232).bind fun t236 => (if (t236 != t228) = true then (some false) else ((laws_toGraph.f k l0_0 l0_1).bind fun bt237 => ((laws_eqGraph.f k t229 t232 bt237.1 bt237.2).bind fun t243 => (if t243 = true then (some true) else (some false)))))) = some r := H
    have A9 := Aside0.mk A90
    clear A90
    replace H := Option.bind_eq_some_iff.mp H
    obtain ⟨t236, A100, H⟩ := H
    replace H : (if (t236 != t228) = true then (some false) else ((laws_toGraph.f k l0_0 l0_1).bind fun bt237 => ((laws_eqGraph.f k t229 t232 bt237.1 bt237.2).bind fun t243 => (if t243 = true then (some true) else (some false))))) = some r := H
    have A10 := Aside0.mk A100
    clear A100
    by_cases c11 : (t236 != t228) = true
    · rw [if_pos c11] at H
      have c11b0 : (t236 != t228) = true := c11
      (try (have c11b1 : decide (t236 = t228) = false := by simpa using c11))
      (try (have c11b2 : (t236 == t228) = false := by simpa using c11))
      (try (have c11b3 : ¬ (t236 = t228) := by simpa using c11))
      clear c11
      exact absurd (Option.some.inj H) (by rw [hT.out]; decide)
    · rw [if_neg c11] at H
      have c11b0 : (t236 != t228) = false := by simpa using c11
      (try (have c11b1 : decide (t236 = t228) = true := by simpa using c11))
      (try (have c11b2 : (t236 == t228) = true := by simpa using c11))
      clear c11
      replace H := Option.bind_eq_some_iff.mp H
      obtain ⟨⟨t237, t240⟩, A120, H⟩ := H
      replace H : ((laws_eqGraph.f k t229 t232 t237 t240).bind fun t243 => (if t243 = true then (some true) else (some false))) = some r := H
      have A12 := Aside0.mk A120
      clear A120
      replace H := Option.bind_eq_some_iff.mp H
      obtain ⟨t243, A130, H⟩ := H
      replace H : (if t243 = true then (some true) else (some false)) = some r := H
      have A13 := Aside0.mk A130
      clear A130
      by_cases c14 : t243 = true
      · subst c14
        have H1 : (some true) = some r := by rw [if_pos rfl] at H; exact H
        clear H
        have H := H1
        clear H1
        obtain rfl := Option.some.inj H
        go_enter Try.func6, Try.ntmps6
        try go_wp2_with (first | ((with_reducible refine gate_dst (N := 1) rfl ?_); refine box_event ?hg (N := 1) ?hd (cs := #[.slice A0_0 l0_0.length c0_0, .slice A0_1 l0_1.length c0_1]) (t := 25) ?hr ?_; (case hd => rfl); (case hg => rfl); (case hr => first | (go_simp; done) | (go_simp; rfl)); intro gb220 hg w15 hbox hb; have n0_ := Aside0.mk (below_step (by repeat (first | (with_reducible first | exact HB.out | apply below_alloc | apply pw_below_drewN | apply below_drew1) | exact HB.out)) hb); have n1_ := Aside0.mk (hbox); have n2_ := Aside0.mk ((by rw [hg]; exact (below_size (by repeat (first | (with_reducible first | exact HB.out | apply below_alloc | apply pw_below_drewN | apply below_drew1) | exact HB.out))) : w.heap.size ≤ gb220)); have n3_ := Aside0.mk ((by rw [hg]; exact (below_size (by repeat (first | (with_reducible first | exact HB.out | apply below_alloc | apply pw_below_drewN | apply below_drew1) | exact HB.out))) : w.heap.size ≤ gb220)); clear HB; have HB := n0_; have BK220 := n1_; have GW220 := n2_; have GE220 := n3_; clear n0_ n1_ n2_ n3_; clear hb hbox hg; have hcz16_0 : w15.cell? ⟨gb220, 0, none⟩ = some (.slice A0_0 l0_0.length c0_0) := (blk_cell BK220.out 0).trans rfl; have hcz16_1 : w15.cell? ⟨gb220, 1, none⟩ = some (.slice A0_1 l0_1.length c0_1) := (blk_cell BK220.out 1).trans rfl; have hfz16_0 := blk_frozen BK220.out 0; have hfz16_1 := blk_frozen BK220.out 1) | ((with_reducible refine gate_callee (f := 16) rfl ?_); refine goesL_ (some 9) rfl rfl Try.func16 (by kernel_rfl) rfl #[.agg #[.slice A0_0 l0_0.length c0_0, .slice A0_1 l0_1.length c0_1], .int .i64 1048576] rfl (by (try simp only [List.map_toArray, List.map_cons, List.map_nil]); first | done | rfl | (simp only [List.length_drop, List.length_take]; rfl)) ?_; (with_reducible refine (laws_szGraph.calls _ _ l0_0 _ _ l0_1 1048576 t221 _ ?side1 ?side2 ?side3 ?side4 A2.out).mono ?_); (case side1 => repeat (first | exact (Kd.C_below HR0_0.out HB.out) | (with_reducible refine Kd.C_alloc ?_ _) | (with_reducible refine Kd.C_drewN ?_ _) | (with_reducible refine Kd.C_drew ?_))); (case side2 => exact HC0_0.out); (case side3 => repeat (first | exact (Kd.C_below HR0_1.out HB.out) | (with_reducible refine Kd.C_alloc ?_ _) | (with_reducible refine Kd.C_drewN ?_ _) | (with_reducible refine Kd.C_drew ?_))); (case side4 => exact HC0_1.out); rintro e w17 ⟨rfl, hb⟩; refine ⟨_, rfl, ?_⟩; have n0_ := Aside0.mk (blk_below (g := gb220) (o := .cells #[.slice A0_0 l0_0.length c0_0, .slice A0_1 l0_1.length c0_1] 25 (0, 0)) (by (with_reducible repeat (first | refine blk_drewN ?_ _ | refine blk_drew ?_ | refine blk_alloc ?_ _)); exact BK220.out) hb); have n1_ := Aside0.mk (below_step (by repeat (first | (with_reducible first | exact HB.out | apply below_alloc | apply pw_below_drewN | apply below_drew1 | refine below_set ?_ GE220.out) | exact HB.out)) hb); clear BK220; clear HB; have BK220 := n0_; have HB := n1_; clear n0_ n1_; (try clear hb); (try clear hb2); (try clear hk); (try clear hi); have hcz18_0 : w17.cell? ⟨gb220, 0, none⟩ = some (.slice A0_0 l0_0.length c0_0) := (blk_cell BK220.out 0).trans rfl; have hcz18_1 : w17.cell? ⟨gb220, 1, none⟩ = some (.slice A0_1 l0_1.length c0_1) := (blk_cell BK220.out 1).trans rfl; have hfz18_0 := blk_frozen BK220.out 0; have hfz18_1 := blk_frozen BK220.out 1) | ((with_reducible refine gate_callee (f := 18) rfl ?_); refine goesL_ (some 13) rfl rfl Try.func18 (by kernel_rfl) rfl #[.agg #[.slice A0_0 l0_0.length c0_0, .slice A0_1 l0_1.length c0_1]] rfl (by (try simp only [List.map_toArray, List.map_cons, List.map_nil]); first | done | rfl | (simp only [List.length_drop, List.length_take]; rfl)) ?_; (with_reducible refine (laws_toGraph.calls k _ _ l0_0 _ _ l0_1 t222 t225 _ ?side1 ?side2 ?side3 ?side4 A7.out).mono ?_); (case side1 => repeat (first | exact (Kd.C_below HR0_0.out HB.out) | (with_reducible refine Kd.C_alloc ?_ _) | (with_reducible refine Kd.C_drewN ?_ _) | (with_reducible refine Kd.C_drew ?_))); (case side2 => exact HC0_0.out); (case side3 => repeat (first | exact (Kd.C_below HR0_1.out HB.out) | (with_reducible refine Kd.C_alloc ?_ _) | (with_reducible refine Kd.C_drewN ?_ _) | (with_reducible refine Kd.C_drew ?_))); (case side4 => exact HC0_1.out); rintro e w19 ⟨v223, v226, rfl, ho0, ho1, hb⟩; refine ⟨_, rfl, ?_⟩; have n0_ := Aside0.mk (Kd.R_lower ho0 (below_size (by repeat (first | (with_reducible first | exact HB.out | apply below_alloc | apply pw_below_drewN | apply below_drew1 | refine below_set ?_ GE220.out) | exact HB.out)))); have n1_ := Aside0.mk (Kd.R_lower ho1 (below_size (by repeat (first | (with_reducible first | exact HB.out | apply below_alloc | apply pw_below_drewN | apply below_drew1 | refine below_set ?_ GE220.out) | exact HB.out)))); have n2_ := Aside0.mk (blk_below (g := gb220) (o := .cells #[.slice A0_0 l0_0.length c0_0, .slice A0_1 l0_1.length c0_1] 25 (0, 0)) (by (with_reducible repeat (first | refine blk_drewN ?_ _ | refine blk_drew ?_ | refine blk_alloc ?_ _)); exact BK220.out) hb); have n3_ := Aside0.mk (below_step (by repeat (first | (with_reducible first | exact HB.out | apply below_alloc | apply pw_below_drewN | apply below_drew1 | refine below_set ?_ GE220.out) | exact HB.out)) hb); clear BK220; clear HB; have HO224 := n0_; have HO227 := n1_; have BK220 := n2_; have HB := n3_; clear n0_ n1_ n2_ n3_; (try clear hb); (try clear hb2); (try clear hk); (try clear hi); (try clear ho0); (try clear ho1); obtain ⟨Ao20, co20, eo20⟩ := Kd.R_slice HO224.out; subst eo20; obtain ⟨Ao21, co21, eo21⟩ := Kd.R_slice HO227.out; subst eo21) | ((with_reducible refine gate_callee (f := 33) rfl ?_); refine goesL_ (some 14) rfl rfl Try.func33 (by kernel_rfl) rfl #[.agg #[.slice Ao20 t222.length co20, .slice Ao21 t225.length co21]] rfl (by (try simp only [List.map_toArray, List.map_cons, List.map_nil]); first | done | rfl | (simp only [List.length_drop, List.length_take]; rfl)) ?_; (with_reducible refine (spec_GraphOk.calls k _ _ t222 _ _ t225 t228 _ ?side1 ?side2 ?side3 ?side4 A8.out).mono ?_); (case side1 => repeat (first | exact (Kd.R_reads' HO224.out).2.2 | (with_reducible refine Kd.C_alloc ?_ _) | (with_reducible refine Kd.C_drewN ?_ _) | (with_reducible refine Kd.C_drew ?_))); (case side2 => exact (Kd.R_reads' HO224.out).2.1); (case side3 => repeat (first | exact (Kd.R_reads' HO227.out).2.2 | (with_reducible refine Kd.C_alloc ?_ _) | (with_reducible refine Kd.C_drewN ?_ _) | (with_reducible refine Kd.C_drew ?_))); (case side4 => exact (Kd.R_reads' HO227.out).2.1); rintro e w22 ⟨rfl, hb⟩; refine ⟨_, rfl, ?_⟩; have n0_ := Aside0.mk (Kd.R_below (by (with_reducible repeat (first | apply Kd.R_alloc | apply Kd.R_drewN | apply Kd.R_drew)); exact HO224.out) hb); have n1_ := Aside0.mk (Kd.R_below (by (with_reducible repeat (first | apply Kd.R_alloc | apply Kd.R_drewN | apply Kd.R_drew)); exact HO227.out) hb); have n2_ := Aside0.mk (blk_below (g := gb220) (o := .cells #[.slice A0_0 l0_0.length c0_0, .slice A0_1 l0_1.length c0_1] 25 (0, 0)) (by (with_reducible repeat (first | refine blk_drewN ?_ _ | refine blk_drew ?_ | refine blk_alloc ?_ _)); exact BK220.out) hb); have n3_ := Aside0.mk (below_step (by repeat (first | (with_reducible first | exact HB.out | apply below_alloc | apply pw_below_drewN | apply below_drew1 | refine below_set ?_ GE220.out) | exact HB.out)) hb); clear HO224; clear HO227; clear BK220; clear HB; have HO224 := n0_; have HO227 := n1_; have BK220 := n2_; have HB := n3_; clear n0_ n1_ n2_ n3_; (try clear hb); (try clear hb2); (try clear hk); (try clear hi); have hcz23_0 : w22.cell? ⟨gb220, 0, none⟩ = some (.slice A0_0 l0_0.length c0_0) := (blk_cell BK220.out 0).trans rfl; have hcz23_1 : w22.cell? ⟨gb220, 1, none⟩ = some (.slice A0_1 l0_1.length c0_1) := (blk_cell BK220.out 1).trans rfl; have hfz23_0 := blk_frozen BK220.out 0; have hfz23_1 := blk_frozen BK220.out 1) | ((with_reducible refine gate_callee (f := 18) rfl ?_); refine goesL_ (some 16) rfl rfl Try.func18 (by kernel_rfl) rfl #[.agg #[.slice A0_0 l0_0.length c0_0, .slice A0_1 l0_1.length c0_1]] rfl (by (try simp only [List.map_toArray, List.map_cons, List.map_nil]); first | done | rfl | (simp only [List.length_drop, List.length_take]; rfl)) ?_; (with_reducible refine (laws_toGraph.calls k _ _ l0_0 _ _ l0_1 t229 t232 _ ?side1 ?side2 ?side3 ?side4 A9.out).mono ?_); (case side1 => repeat (first | exact (Kd.C_below HR0_0.out HB.out) | (with_reducible refine Kd.C_alloc ?_ _) | (with_reducible refine Kd.C_drewN ?_ _) | (with_reducible refine Kd.C_drew ?_))); (case side2 => exact HC0_0.out); (case side3 => repeat (first | exact (Kd.C_below HR0_1.out HB.out) | (with_reducible refine Kd.C_alloc ?_ _) | (with_reducible refine Kd.C_drewN ?_ _) | (with_reducible refine Kd.C_drew ?_))); (case side4 => exact HC0_1.out); rintro e w24 ⟨v230, v233, rfl, ho0, ho1, hb⟩; refine ⟨_, rfl, ?_⟩; have n0_ := Aside0.mk (Kd.R_elder' (by (with_reducible repeat (first | apply Kd.R_alloc | apply Kd.R_drewN | apply Kd.R_drew)); exact HO224.out) (Kd.R_base ho0) hb); have n1_ := Aside0.mk (Kd.R_elder' (by (with_reducible repeat (first | apply Kd.R_alloc | apply Kd.R_drewN | apply Kd.R_drew)); exact HO227.out) (Kd.R_base ho1) hb); have n2_ := Aside0.mk (Kd.R_lower (Kd.R_new' ho0 (Kd.R_lt (by (with_reducible repeat (first | apply Kd.R_alloc | apply Kd.R_drewN | apply Kd.R_drew)); exact HO224.out))) (below_size (by repeat (first | (with_reducible first | exact HB.out | apply below_alloc | apply pw_below_drewN | apply below_drew1 | refine below_set ?_ GE220.out) | exact HB.out)))); have n3_ := Aside0.mk (Kd.R_lower (Kd.R_new' ho1 (Kd.R_lt (by (with_reducible repeat (first | apply Kd.R_alloc | apply Kd.R_drewN | apply Kd.R_drew)); exact HO227.out))) (below_size (by repeat (first | (with_reducible first | exact HB.out | apply below_alloc | apply pw_below_drewN | apply below_drew1 | refine below_set ?_ GE220.out) | exact HB.out)))); have n4_ := Aside0.mk (blk_below (g := gb220) (o := .cells #[.slice A0_0 l0_0.length c0_0, .slice A0_1 l0_1.length c0_1] 25 (0, 0)) (by (with_reducible repeat (first | refine blk_drewN ?_ _ | refine blk_drew ?_ | refine blk_alloc ?_ _)); exact BK220.out) hb); have n5_ := Aside0.mk (below_step (by repeat (first | (with_reducible first | exact HB.out | apply below_alloc | apply pw_below_drewN | apply below_drew1 | refine below_set ?_ GE220.out) | exact HB.out)) hb); clear HO224; clear HO227; clear BK220; clear HB; have HO224 := n0_; have HO227 := n1_; have HO231 := n2_; have HO234 := n3_; have BK220 := n4_; have HB := n5_; clear n0_ n1_ n2_ n3_ n4_ n5_; (try clear hb); (try clear hb2); (try clear hk); (try clear hi); (try clear ho0); (try clear ho1)) | ((with_reducible refine gate_dst (N := 5) rfl ?_); refine box_event ?hg (N := 5) ?hd (cs := #[.slice none 0 0, .slice none 0 0]) (t := 34) ?hr ?_; (case hd => rfl); (case hg => rfl); (case hr => first | (go_simp; done) | (go_simp; rfl)); intro gb235 hg w25 hbox hb; have n0_ := Aside0.mk (Kd.R_below (by (with_reducible repeat (first | apply Kd.R_alloc | apply Kd.R_drewN | apply Kd.R_drew)); exact HO224.out) hb); have n1_ := Aside0.mk (Kd.R_below (by (with_reducible repeat (first | apply Kd.R_alloc | apply Kd.R_drewN | apply Kd.R_drew)); exact HO227.out) hb); have n2_ := Aside0.mk (Kd.R_below (by (with_reducible repeat (first | apply Kd.R_alloc | apply Kd.R_drewN | apply Kd.R_drew)); exact HO231.out) hb); have n3_ := Aside0.mk (Kd.R_below (by (with_reducible repeat (first | apply Kd.R_alloc | apply Kd.R_drewN | apply Kd.R_drew)); exact HO234.out) hb); have n4_ := Aside0.mk (blk_below (g := gb220) (o := .cells #[.slice A0_0 l0_0.length c0_0, .slice A0_1 l0_1.length c0_1] 25 (0, 0)) (by (with_reducible repeat (first | refine blk_drewN ?_ _ | refine blk_drew ?_ | refine blk_alloc ?_ _)); exact BK220.out) hb); have n5_ := Aside0.mk (below_step (by repeat (first | (with_reducible first | exact HB.out | apply below_alloc | apply pw_below_drewN | apply below_drew1 | refine below_set ?_ GE220.out) | exact HB.out)) hb); have n6_ := Aside0.mk (hbox); have n7_ := Aside0.mk ((by rw [hg]; exact (below_size (by repeat (first | (with_reducible first | exact HB.out | apply below_alloc | apply pw_below_drewN | apply below_drew1 | refine below_set ?_ GE220.out) | exact HB.out))) : w.heap.size ≤ gb235)); have n8_ := Aside0.mk ((by rw [hg]; exact (below_size (by repeat (first | (with_reducible first | exact HB.out | apply below_alloc | apply pw_below_drewN | apply below_drew1 | refine below_set ?_ GE220.out) | exact HB.out))) : w.heap.size ≤ gb235)); have n9_ := Aside0.mk ((by rw [hg]; exact Nat.ne_of_lt (blk_lt (g := gb220) (o := .cells #[.slice A0_0 l0_0.length c0_0, .slice A0_1 l0_1.length c0_1] 25 (0, 0)) (by (with_reducible repeat (first | refine blk_drewN ?_ _ | refine blk_drew ?_ | refine blk_alloc ?_ _)); exact BK220.out)) : gb220 ≠ gb235)); have n10_ := Aside0.mk ((by rw [hg]; exact Nat.ne_of_gt (blk_lt (g := gb220) (o := .cells #[.slice A0_0 l0_0.length c0_0, .slice A0_1 l0_1.length c0_1] 25 (0, 0)) (by (with_reducible repeat (first | refine blk_drewN ?_ _ | refine blk_drew ?_ | refine blk_alloc ?_ _)); exact BK220.out)) : gb235 ≠ gb220)); clear HO224; clear HO227; clear HO231; clear HO234; clear BK220; clear HB; have HO224 := n0_; have HO227 := n1_; have HO231 := n2_; have HO234 := n3_; have BK220 := n4_; have HB := n5_; have BK235 := n6_; have GW235 := n7_; have GE235 := n8_; have NB220_235 := n9_; have NB235_220 := n10_; clear n0_ n1_ n2_ n3_ n4_ n5_ n6_ n7_ n8_ n9_ n10_; clear hb hbox hg; obtain ⟨Ao26, co26, eo26⟩ := Kd.R_slice HO231.out; subst eo26; have hnb27 := NB235_220.out; have hnc27 := NB220_235.out; have hcz28_0 : w25.cell? ⟨gb235, 0, none⟩ = some (.slice none 0 0) := (blk_cell BK235.out 0).trans rfl; have hcz28_1 : w25.cell? ⟨gb235, 1, none⟩ = some (.slice none 0 0) := (blk_cell BK235.out 1).trans rfl; have hfz28_0 := blk_frozen BK235.out 0; have hfz28_1 := blk_frozen BK235.out 1; obtain ⟨Ao29, co29, eo29⟩ := Kd.R_slice HO234.out; subst eo29) | ((with_reducible refine gate_callee (f := 34) rfl ?_); refine goesL_ (some 18) rfl rfl Try.func34 (by kernel_rfl) rfl #[.agg #[.slice Ao26 t229.length co26, .slice Ao29 t232.length co29]] rfl (by (try simp only [List.map_toArray, List.map_cons, List.map_nil]); first | done | rfl | (simp only [List.length_drop, List.length_take]; rfl)) ?_; (with_reducible refine (impl_GraphOk.calls k _ _ t229 _ _ t232 t236 _ ?side1 ?side2 ?side3 ?side4 A10.out).mono ?_); (case side1 => refine (Kd.R_reads' (e := 36) (base := w.heap.size) (ok := fun k_ => (True ∧ some k_ ≠ (.slice Ao20 t222.length co20 : Value).ownBlock)) (n := t229.length) (c := co26) ?_).2.2; exact (by (with_reducible repeat (first | apply Kd.R_alloc | apply Kd.R_drewN | apply Kd.R_drew)); exact (Kd.R_mono (Kd.R_far (p := ⟨gb235, 1, none⟩) (Kd.R_far (p := ⟨gb235, 0, none⟩) (Kd.R_types HO231.out BK235.out (by decide)) (fun _ hk => hk.2) (.slice Ao26 t229.length co26)) (fun _ hk => hk.2) (.slice Ao29 t232.length co29)) (fun _ h_ => h_.1)))); (case side2 => exact (Kd.R_reads' HO231.out).2.1); (case side3 => refine (Kd.R_reads' (e := 56) (base := w.heap.size) (ok := fun k_ => (True ∧ some k_ ≠ (.slice Ao21 t225.length co21 : Value).ownBlock)) (n := t232.length) (c := co29) ?_).2.2; exact (by (with_reducible repeat (first | apply Kd.R_alloc | apply Kd.R_drewN | apply Kd.R_drew)); exact (Kd.R_mono (Kd.R_far (p := ⟨gb235, 1, none⟩) (Kd.R_far (p := ⟨gb235, 0, none⟩) (Kd.R_types HO234.out BK235.out (by decide)) (fun _ hk => hk.2) (.slice Ao26 t229.length co26)) (fun _ hk => hk.2) (.slice Ao29 t232.length co29)) (fun _ h_ => h_.1)))); (case side4 => exact (Kd.R_reads' HO234.out).2.1); rintro e w30 ⟨rfl, hb⟩; refine ⟨_, rfl, ?_⟩; have n0_ := Aside0.mk (Kd.R_below (by (with_reducible repeat (first | apply Kd.R_alloc | apply Kd.R_drewN | apply Kd.R_drew)); exact (Kd.R_mono (Kd.R_far (p := ⟨gb235, 1, none⟩) (Kd.R_far (p := ⟨gb235, 0, none⟩) (Kd.R_types HO224.out BK235.out (by decide)) (fun _ hk => hk.2) (.slice Ao26 t229.length co26)) (fun _ hk => hk.2) (.slice Ao29 t232.length co29)) (fun _ h_ => h_.1))) hb); have n1_ := Aside0.mk (Kd.R_below (by (with_reducible repeat (first | apply Kd.R_alloc | apply Kd.R_drewN | apply Kd.R_drew)); exact (Kd.R_mono (Kd.R_far (p := ⟨gb235, 1, none⟩) (Kd.R_far (p := ⟨gb235, 0, none⟩) (Kd.R_types HO227.out BK235.out (by decide)) (fun _ hk => hk.2) (.slice Ao26 t229.length co26)) (fun _ hk => hk.2) (.slice Ao29 t232.length co29)) (fun _ h_ => h_.1))) hb); have n2_ := Aside0.mk (Kd.R_below (by (with_reducible repeat (first | apply Kd.R_alloc | apply Kd.R_drewN | apply Kd.R_drew)); exact (Kd.R_mono (Kd.R_far (p := ⟨gb235, 1, none⟩) (Kd.R_far (p := ⟨gb235, 0, none⟩) (Kd.R_types HO231.out BK235.out (by decide)) (fun _ hk => hk.2) (.slice Ao26 t229.length co26)) (fun _ hk => hk.2) (.slice Ao29 t232.length co29)) (fun _ h_ => h_.1))) hb); have n3_ := Aside0.mk (Kd.R_below (by (with_reducible repeat (first | apply Kd.R_alloc | apply Kd.R_drewN | apply Kd.R_drew)); exact (Kd.R_mono (Kd.R_far (p := ⟨gb235, 1, none⟩) (Kd.R_far (p := ⟨gb235, 0, none⟩) (Kd.R_types HO234.out BK235.out (by decide)) (fun _ hk => hk.2) (.slice Ao26 t229.length co26)) (fun _ hk => hk.2) (.slice Ao29 t232.length co29)) (fun _ h_ => h_.1))) hb); have n4_ := Aside0.mk (blk_below (g := gb220) (o := .cells #[.slice A0_0 l0_0.length c0_0, .slice A0_1 l0_1.length c0_1] 25 (0, 0)) (by (with_reducible repeat (first | refine blk_drewN ?_ _ | refine blk_drew ?_ | refine blk_alloc ?_ _)); refine blk_far ?_ NB220_235.out _; (with_reducible repeat (first | refine blk_drewN ?_ _ | refine blk_drew ?_ | refine blk_alloc ?_ _)); refine blk_far ?_ NB220_235.out _; (with_reducible repeat (first | refine blk_drewN ?_ _ | refine blk_drew ?_ | refine blk_alloc ?_ _)); exact BK220.out) hb); have n5_ := Aside0.mk (blk_below (g := gb235) (o := .cells #[.slice Ao26 t229.length co26, .slice Ao29 t232.length co29] 34 (0, 0)) (by (with_reducible repeat (first | refine blk_drewN ?_ _ | refine blk_drew ?_ | refine blk_alloc ?_ _)); refine blk_put (cs := #[.slice Ao26 t229.length co26, .slice none 0 0]) ?_ 1 _ rfl; (with_reducible repeat (first | refine blk_drewN ?_ _ | refine blk_drew ?_ | refine blk_alloc ?_ _)); refine blk_put (cs := #[.slice none 0 0, .slice none 0 0]) ?_ 0 _ rfl; (with_reducible repeat (first | refine blk_drewN ?_ _ | refine blk_drew ?_ | refine blk_alloc ?_ _)); exact BK235.out) hb); have n6_ := Aside0.mk (below_step (by repeat (first | (with_reducible first | exact HB.out | apply below_alloc | apply pw_below_drewN | apply below_drew1 | refine below_set ?_ GE220.out | refine below_set ?_ GE235.out) | exact HB.out)) hb); clear HO224; clear HO227; clear HO231; clear HO234; clear BK220; clear BK235; clear HB; have HO224 := n0_; have HO227 := n1_; have HO231 := n2_; have HO234 := n3_; have BK220 := n4_; have BK235 := n5_; have HB := n6_; clear n0_ n1_ n2_ n3_ n4_ n5_ n6_; (try clear hb); (try clear hb2); (try clear hk); (try clear hi)))
        have n0_ := Aside0.mk (Kd.R_drew HO224.out)
        have n1_ := Aside0.mk (Kd.R_drew HO227.out)
        have n2_ := Aside0.mk (Kd.R_drew HO231.out)
        have n3_ := Aside0.mk (Kd.R_drew HO234.out)
        have n4_ := Aside0.mk (blk_drew BK220.out)
        have n5_ := Aside0.mk (blk_drew BK235.out)
        have n6_ := Aside0.mk (below_drew1 HB.out)
        clear HO224
        clear HO227
        clear HO231
        clear HO234
        clear BK220
        clear BK235
        clear HB
        have HO224 := n0_
        have HO227 := n1_
        have HO231 := n2_
        have HO234 := n3_
        have BK220 := n4_
        have BK235 := n5_
        have HB := n6_
        clear n0_ n1_ n2_ n3_ n4_ n5_ n6_
        refine start_ (n := 5) (S := fun w' => w'.cell? ⟨gb235, 0, none⟩ = some (.slice Ao26 t229.length co26) ∧ w'.cell? ⟨gb235, 1, none⟩ = some (.slice Ao29 t232.length co29) ∧ w'.cell? ⟨gb220, 0, none⟩ = some (.slice A0_0 l0_0.length c0_0) ∧ w'.cell? ⟨gb220, 1, none⟩ = some (.slice A0_1 l0_1.length c0_1)) (ds := []) #[false, false, false, false, false] (by kernel_rfl) rfl rfl ⟨(blk_cell BK235.out 0).trans rfl, (blk_cell BK235.out 1).trans rfl, (blk_cell BK220.out 0).trans rfl, (blk_cell BK220.out 1).trans rfl⟩ (fun hHeld => ?_)
        generalize w30.drew = w31 at HO224 HO227 HO231 HO234 BK220 BK235 HB hHeld ⊢
        refine take_ (i := 0) (N := some 22) (v := ?_) (a' := ?_) #[true, false, false, false, false] rfl rfl (by kernel_rfl) (fun _ _ _ h => h) (Or.inl ⟨by rfl, ?_⟩) hHeld ?_ ?_
        rotate_left
        · rintro w' ⟨s0, s1, s2, s3⟩
          go_simp
          with_reducible rfl
        rotate_left
        · simp only [Act.put, List.setIfInBounds_toArray, List.set_cons_zero, List.set_cons_succ, i64_w, i32_w]
          rfl
        refine take_ (i := 1) (N := some 23) (v := ?_) (a' := ?_) #[true, true, false, false, false] rfl rfl (by kernel_rfl) (fun _ _ _ h => h) (Or.inl ⟨by rfl, ?_⟩) hHeld ?_ ?_
        rotate_left
        · rintro w' ⟨s0, s1, s2, s3⟩
          go_simp
          with_reducible rfl
        rotate_left
        · simp only [Act.put, List.setIfInBounds_toArray, List.set_cons_zero, List.set_cons_succ, i64_w, i32_w]
          rfl
        refine one_ (i := 2) (N := some 24) #[true, true, true, false, false] rfl rfl (by kernel_rfl) (by decide) (fun K hK => ?_)
        refine goes_ Try.func18 (by kernel_rfl) rfl #[.agg #[.slice A0_0 l0_0.length c0_0, .slice A0_1 l0_1.length c0_1]] (by rfl) rfl rfl (by (try simp only [List.map_toArray, List.map_cons, List.map_nil]); first | done | rfl | (simp only [List.length_drop, List.length_take]; rfl)) ?_
        with_reducible refine (laws_toGraph.calls k _ _ l0_0 _ _ l0_1 t237 t240 _ ?side1 ?side2 ?side3 ?side4 A12.out).mono ?_
        (case side1 => repeat (first | exact (Kd.C_below HR0_0.out HB.out) | (with_reducible refine Kd.C_alloc ?_ _) | (with_reducible refine Kd.C_drewN ?_ _) | (with_reducible refine Kd.C_drew ?_)))
        (case side2 => exact HC0_0.out)
        (case side3 => repeat (first | exact (Kd.C_below HR0_1.out HB.out) | (with_reducible refine Kd.C_alloc ?_ _) | (with_reducible refine Kd.C_drewN ?_ _) | (with_reducible refine Kd.C_drew ?_)))
        (case side4 => exact HC0_1.out)
        rintro e w32 ⟨v238, v241, rfl, ho0, ho1, hb⟩
        refine ⟨_, rfl, ?_⟩
        have n0_ := Aside0.mk (Kd.R_elder' (by (with_reducible repeat (first | apply Kd.R_alloc | apply Kd.R_drewN | apply Kd.R_drew)); exact HO224.out) (Kd.R_base ho0) hb)
        have n1_ := Aside0.mk (Kd.R_elder' (by (with_reducible repeat (first | apply Kd.R_alloc | apply Kd.R_drewN | apply Kd.R_drew)); exact HO227.out) (Kd.R_base ho1) hb)
        have n2_ := Aside0.mk (Kd.R_elder' (by (with_reducible repeat (first | apply Kd.R_alloc | apply Kd.R_drewN | apply Kd.R_drew)); exact HO231.out) (Kd.R_base ho0) hb)
        have n3_ := Aside0.mk (Kd.R_elder' (by (with_reducible repeat (first | apply Kd.R_alloc | apply Kd.R_drewN | apply Kd.R_drew)); exact HO234.out) (Kd.R_base ho1) hb)
        have n4_ := Aside0.mk (Kd.R_lower (Kd.R_new' (Kd.R_new' ho0 (Kd.R_lt (by (with_reducible repeat (first | apply Kd.R_alloc | apply Kd.R_drewN | apply Kd.R_drew)); exact HO224.out))) (Kd.R_lt (by (with_reducible repeat (first | apply Kd.R_alloc | apply Kd.R_drewN | apply Kd.R_drew)); exact HO231.out))) (below_size (by repeat (first | (with_reducible first | exact HB.out | apply below_alloc | apply pw_below_drewN | apply below_drew1 | refine below_set ?_ GE220.out | refine below_set ?_ GE235.out) | exact HB.out))))
        have n5_ := Aside0.mk (Kd.R_lower (Kd.R_new' (Kd.R_new' ho1 (Kd.R_lt (by (with_reducible repeat (first | apply Kd.R_alloc | apply Kd.R_drewN | apply Kd.R_drew)); exact HO227.out))) (Kd.R_lt (by (with_reducible repeat (first | apply Kd.R_alloc | apply Kd.R_drewN | apply Kd.R_drew)); exact HO234.out))) (below_size (by repeat (first | (with_reducible first | exact HB.out | apply below_alloc | apply pw_below_drewN | apply below_drew1 | refine below_set ?_ GE220.out | refine below_set ?_ GE235.out) | exact HB.out))))
        have n6_ := Aside0.mk (blk_below (g := gb220) (o := .cells #[.slice A0_0 l0_0.length c0_0, .slice A0_1 l0_1.length c0_1] 25 (0, 0)) (by (with_reducible repeat (first | refine blk_drewN ?_ _ | refine blk_drew ?_ | refine blk_alloc ?_ _)); exact BK220.out) hb)
        have n7_ := Aside0.mk (blk_below (g := gb235) (o := .cells #[.slice Ao26 t229.length co26, .slice Ao29 t232.length co29] 34 (0, 0)) (by (with_reducible repeat (first | refine blk_drewN ?_ _ | refine blk_drew ?_ | refine blk_alloc ?_ _)); exact BK235.out) hb)
        have n8_ := Aside0.mk (below_step (by repeat (first | (with_reducible first | exact HB.out | apply below_alloc | apply pw_below_drewN | apply below_drew1 | refine below_set ?_ GE220.out | refine below_set ?_ GE235.out) | exact HB.out)) hb)
        clear HO224
        clear HO227
        clear HO231
        clear HO234
        clear BK220
        clear BK235
        clear HB
        have HO224 := n0_
        have HO227 := n1_
        have HO231 := n2_
        have HO234 := n3_
        have HO239 := n4_
        have HO242 := n5_
        have BK220 := n6_
        have BK235 := n7_
        have HB := n8_
        clear n0_ n1_ n2_ n3_ n4_ n5_ n6_ n7_ n8_
        (try clear hb)
        (try clear hb2)
        (try clear hk)
        (try clear hi)
        (try clear ho0)
        (try clear ho1)
        obtain ⟨Ao33, co33, eo33⟩ := Kd.R_slice HO239.out
        (first | subst eo33 | (injection eo33 with f1_ f2_ f3_; have f4_ := f1_.symm; have f5_ := f3_.symm; clear f1_ f2_ f3_; subst f4_; subst f5_))
        obtain ⟨Ao34, co34, eo34⟩ := Kd.R_slice HO242.out
        (first | subst eo34 | (injection eo34 with f1_ f2_ f3_; have f4_ := f1_.symm; have f5_ := f3_.symm; clear f1_ f2_ f3_; subst f4_; subst f5_))
        refine hK.out _ _ ⟨(blk_cell BK235.out 0).trans rfl, (blk_cell BK235.out 1).trans rfl, (blk_cell BK220.out 0).trans rfl, (blk_cell BK220.out 1).trans rfl⟩ (fun hHeld => ?_)
        clear hK K
        refine norm_ (a' := ?_) ?_ ?_
        rotate_left
        · show Act.put _ (some 24) _ = _
          simp only [Act.put, List.setIfInBounds_toArray, List.set_cons_zero, List.set_cons_succ, i64_w, i32_w]
          rfl
        refine one_ (i := 3) (N := some 25) #[true, true, true, true, false] rfl rfl (by kernel_rfl) (by decide) (fun K hK => ?_)
        refine goes_ Try.func22 (by kernel_rfl) rfl #[.agg #[.slice Ao26 t229.length co26, .slice Ao29 t232.length co29], .agg #[.slice Ao33 t237.length co33, .slice Ao34 t240.length co34]] (by rfl) rfl rfl (by (try simp only [List.map_toArray, List.map_cons, List.map_nil]); first | done | rfl | (simp only [List.length_drop, List.length_take]; rfl)) ?_
        with_reducible refine (laws_eqGraph.calls k _ _ t229 _ _ t232 _ _ t237 _ _ t240 true _ ?side1 ?side2 ?side3 ?side4 ?side5 ?side6 ?side7 ?side8 A13.out).mono ?_
        (case side1 => repeat (first | exact (Kd.R_reads' HO231.out).2.2 | (with_reducible refine Kd.C_alloc ?_ _) | (with_reducible refine Kd.C_drewN ?_ _) | (with_reducible refine Kd.C_drew ?_)))
        (case side2 => exact (Kd.R_reads' HO231.out).2.1)
        (case side3 => repeat (first | exact (Kd.R_reads' HO234.out).2.2 | (with_reducible refine Kd.C_alloc ?_ _) | (with_reducible refine Kd.C_drewN ?_ _) | (with_reducible refine Kd.C_drew ?_)))
        (case side4 => exact (Kd.R_reads' HO234.out).2.1)
        (case side5 => repeat (first | exact (Kd.R_reads' HO239.out).2.2 | (with_reducible refine Kd.C_alloc ?_ _) | (with_reducible refine Kd.C_drewN ?_ _) | (with_reducible refine Kd.C_drew ?_)))
        (case side6 => exact (Kd.R_reads' HO239.out).2.1)
        (case side7 => repeat (first | exact (Kd.R_reads' HO242.out).2.2 | (with_reducible refine Kd.C_alloc ?_ _) | (with_reducible refine Kd.C_drewN ?_ _) | (with_reducible refine Kd.C_drew ?_)))
        (case side8 => exact (Kd.R_reads' HO242.out).2.1)
        rintro e w35 ⟨rfl, hb⟩
        refine ⟨_, rfl, ?_⟩
        have n0_ := Aside0.mk (Kd.R_below (by (with_reducible repeat (first | apply Kd.R_alloc | apply Kd.R_drewN | apply Kd.R_drew)); exact HO224.out) hb)
        have n1_ := Aside0.mk (Kd.R_below (by (with_reducible repeat (first | apply Kd.R_alloc | apply Kd.R_drewN | apply Kd.R_drew)); exact HO227.out) hb)
        have n2_ := Aside0.mk (Kd.R_below (by (with_reducible repeat (first | apply Kd.R_alloc | apply Kd.R_drewN | apply Kd.R_drew)); exact HO231.out) hb)
        have n3_ := Aside0.mk (Kd.R_below (by (with_reducible repeat (first | apply Kd.R_alloc | apply Kd.R_drewN | apply Kd.R_drew)); exact HO234.out) hb)
        have n4_ := Aside0.mk (Kd.R_below (by (with_reducible repeat (first | apply Kd.R_alloc | apply Kd.R_drewN | apply Kd.R_drew)); exact HO239.out) hb)
        have n5_ := Aside0.mk (Kd.R_below (by (with_reducible repeat (first | apply Kd.R_alloc | apply Kd.R_drewN | apply Kd.R_drew)); exact HO242.out) hb)
        have n6_ := Aside0.mk (blk_below (g := gb220) (o := .cells #[.slice A0_0 l0_0.length c0_0, .slice A0_1 l0_1.length c0_1] 25 (0, 0)) (by (with_reducible repeat (first | refine blk_drewN ?_ _ | refine blk_drew ?_ | refine blk_alloc ?_ _)); exact BK220.out) hb)
        have n7_ := Aside0.mk (blk_below (g := gb235) (o := .cells #[.slice Ao26 t229.length co26, .slice Ao29 t232.length co29] 34 (0, 0)) (by (with_reducible repeat (first | refine blk_drewN ?_ _ | refine blk_drew ?_ | refine blk_alloc ?_ _)); exact BK235.out) hb)
        have n8_ := Aside0.mk (below_step (by repeat (first | (with_reducible first | exact HB.out | apply below_alloc | apply pw_below_drewN | apply below_drew1 | refine below_set ?_ GE220.out | refine below_set ?_ GE235.out) | exact HB.out)) hb)
        clear HO224
        clear HO227
        clear HO231
        clear HO234
        clear HO239
        clear HO242
        clear BK220
        clear BK235
        clear HB
        have HO224 := n0_
        have HO227 := n1_
        have HO231 := n2_
        have HO234 := n3_
        have HO239 := n4_
        have HO242 := n5_
        have BK220 := n6_
        have BK235 := n7_
        have HB := n8_
        clear n0_ n1_ n2_ n3_ n4_ n5_ n6_ n7_ n8_
        (try clear hb)
        (try clear hb2)
        (try clear hk)
        (try clear hi)
        refine hK.out _ _ ⟨(blk_cell BK235.out 0).trans rfl, (blk_cell BK235.out 1).trans rfl, (blk_cell BK220.out 0).trans rfl, (blk_cell BK220.out 1).trans rfl⟩ (fun hHeld => ?_)
        clear hK K
        refine norm_ (a' := ?_) ?_ ?_
        rotate_left
        · show Act.put _ (some 25) _ = _
          simp only [Act.put, List.setIfInBounds_toArray, List.set_cons_zero, List.set_cons_succ, i64_w, i32_w]
          rfl
        refine pure_ (i := 4) (N := some 26) (v := ?_) (a' := ?_) #[true, true, true, true, true] rfl rfl (by kernel_rfl) (fun _ _ _ h => h) (Or.inl ⟨by rfl, ?_⟩) ?_ ?_
        rotate_left
        · intro w'
          go_simp
          with_reducible rfl
        rotate_left
        · simp only [Act.put, List.setIfInBounds_toArray, List.set_cons_zero, List.set_cons_succ, i64_w, i32_w]
          rfl
        refine done_ (by kernel_rfl) ?_
        try go_wp2
        go_ret
        exact ⟨by first | rfl | (simp [errW_none, errW_some] <;> rfl) | (simp [*, errW_none, errW_some] <;> rfl), by repeat (first | (with_reducible first | exact HB.out | apply below_alloc | apply pw_below_drewN | apply below_drew1 | refine below_set ?_ GE220.out | refine below_set ?_ GE235.out) | exact HB.out)⟩
      · replace c14 := Bool.eq_false_iff.mpr c14
        subst c14
        have H1 : (some false) = some r := by rw [if_neg (show ¬ (false = true) by decide)] at H; exact H
        clear H
        have H := H1
        clear H1
        exact absurd (Option.some.inj H) (by rw [hT.out]; decide)

end Go.Proofs.Ytohmemckdogljaa.QFnExactGraphOk
