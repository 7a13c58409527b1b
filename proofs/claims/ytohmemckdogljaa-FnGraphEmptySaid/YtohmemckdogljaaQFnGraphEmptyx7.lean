/- Contracts of the Go functions that this law reaches: each does what its plain Lean function says. No condition. -/
import Derived.Test.YtohmemckdogljaaQFnGraphEmptyx0
import Derived.Test.YtohmemckdogljaaQFnGraphEmptyx5
import Derived.Test.YtohmemckdogljaaQFnGraphEmptyx6
namespace Go.Proofs.Ytohmemckdogljaa.QFnGraphEmpty
open Go.RowKit Go.Proofs.YtohmemckdogljaaW.PrintWords Go.Proofs.YtohmemckdogljaaW.PrintLast Go.Proofs.YtohmemckdogljaaW.PrintMore Go.Proofs.Ytohmemckdogljaa.Bl
attribute [local go_sem] max2_int min2_int max_two min_two max_three min_three max_four min_four   -- for this text's walks alone
set_option linter.unusedVariables false
set_option linter.unusedSimpArgs false

/-! ### impl_edgesOk: function 82 -/
def impl_edgesOk.l0 : Nat → List S56 → List S36 → List Int → Int → Option Bool
 | 0, _, _, _, _ => none
 | k + 1, es, ns, m, i => if i < (es.length : Int) then (if 0 ≤ i then (if EOk (rd_T56 es i).f0 (rd_T56 es i).f1.f0 (rd_T56 es i).f1.f1 (rd_T56 es i).f2.f0 (rd_T56 es i).f2.f1 = true then (if rd m (rd_T56 es i).f0 = 7 then some false else (if i > 0 then (if 0 ≤ wrap64 (i - 1) then (if wrap64 (i - 1) < (es.length : Int) then (impl_edgeOrder.f k (rd_T56 es (wrap64 (i - 1))).f0 (rd_T56 es (wrap64 (i - 1))).f1.f0 (rd_T56 es (wrap64 (i - 1))).f1.f1 (rd_T56 es (wrap64 (i - 1))).f2.f0 (rd_T56 es (wrap64 (i - 1))).f2.f1 (rd_T56 es i).f0 (rd_T56 es i).f1.f0 (rd_T56 es i).f1.f1 (rd_T56 es i).f2.f0 (rd_T56 es i).f2.f1).bind fun t => if t ≥ 0 then some false else ((impl_nodeThere.f k ns (rd_T56 es i).f1.f0 (rd_T56 es i).f1.f1).bind fun t1 => if t1 = true then (impl_nodeThere.f k ns (rd_T56 es i).f2.f0 (rd_T56 es i).f2.f1).bind fun t2 => if t2 = true then impl_edgesOk.l0 k es ns (m.set ((rd_T56 es i).f0).toNat (wrap64 (rd m (rd_T56 es i).f0 + 1))) (wrap64 (i + 1)) else some false else some false) else none) else none) else ((impl_nodeThere.f k ns (rd_T56 es i).f1.f0 (rd_T56 es i).f1.f1).bind fun t1 => if t1 = true then (impl_nodeThere.f k ns (rd_T56 es i).f2.f0 (rd_T56 es i).f2.f1).bind fun t2 => if t2 = true then impl_edgesOk.l0 k es ns (m.set ((rd_T56 es i).f0).toNat (wrap64 (rd m (rd_T56 es i).f0 + 1))) (wrap64 (i + 1)) else some false else some false))) else some false) else none) else some true
def impl_edgesOk.f (k : Nat) (l0 : List S56) (l1 : List S36) : Option Bool := impl_edgesOk.l0 k l0 l1 [0, 0, 0, 0, 0, 0, 0, 0] 0
set_option maxHeartbeats 8000000 in
set_option maxRecDepth 100000 in
theorem impl_edgesOk.calls (k : Nat) (A0 : Option Addr) (c0 : Nat) (l0 : List S56) (A1 : Option Addr) (c1 : Nat) (l1 : List S36) (r : Bool) (w : World) (hr0 : Kd.C k56 w A0 l0.length l0) (hc0 : l0.length ≤ c0) (hr1 : Kd.C k36 w A1 l1.length l1) (hc1 : l1.length ≤ c1) (h : impl_edgesOk.f k l0 l1 = some r) :
  Calls Try.prog 82 #[.slice A0 l0.length c0, .slice A1 l1.length c1] w fun e w' => e = .returned (.bool r) ∧ Below w.heap.size w w' := by
 have hu36 := Try.underlying36
 have hu56 := Try.underlying56
 have hu122 := Try.underlying122
 have HR0 := Aside0.mk hr0
 have HC0 := Aside0.mk hc0
 have HR1 := Aside0.mk hr1
 have HC1 := Aside0.mk hc1
 clear hr0 hc0 hr1 hc1
 have HB := Aside0.mk (Below.refl w.heap.size w)
 have H' := Aside0.mk (show impl_edgesOk.l0 k l0 l1 [0, 0, 0, 0, 0, 0, 0, 0] 0 = some r from h)
 clear h
 go_enter Try.func82, Try.ntmps82
 go_wp2_with (first | ((with_reducible refine gd (N := 5) rfl ?_); refine bx 5 (cs := cts [0, 0, 0, 0, 0, 0, 0, 0]) (t := 122) ?_; intro gb hg w3 hbox hb; have BK := Aside0.mk hbox; have GE := Ge.mk ((by rw [hg]; exact (below_size (bs HB.out)) : w.heap.size ≤ gb)); replace HB := Aside0.mk (below_step HB.out hb); clear hg hb hbox))
 go_loopg [10] k (fun kq v10 w' => ∃ (x10 : Int) (m : List Int), v10 = .int .i64 x10 ∧ Aside0 (impl_edgesOk.l0 kq l0 l1 m x10 = some r) ∧ Aside0 (m.length = 8) ∧ Aside0 (kq ≤ k) ∧ Aside0 (w'.heap[gb]? = some (.cells (cts m) 122 (0, 0))) ∧ Aside0 (Below w.heap.size w w'))
 case atStart => exact ⟨0, [0, 0, 0, 0, 0, 0, 0, 0], (by first | rfl | (simp; done) | (simp [*]; done)), H', ⟨rfl⟩, ⟨Nat.le_refl _⟩, ⟨bf BK.out⟩, ⟨bs HB.out⟩⟩
 case round =>
  clear H'
  obtain ⟨x10, m, rfl, HA, HM, HK1, BK, HB⟩ := hrel
  cases gk with
  | zero => exact absurd HA.out (by simp [impl_edgesOk.l0])
  | succ k1 =>
   have H := HA.out
   clear HA
   simp only [impl_edgesOk.l0] at H
   by_cases c1 : x10 < (l0.length : Int)
   ·rw [if_pos c1] at H
    have c1b0 : decide (x10 < (l0.length : Int)) = true := decide_eq_true c1
    by_cases c2 : 0 ≤ x10
    ·rw [if_pos c2] at H
     have p0 := c2
     have q0 := c1
     obtain ⟨ad, ea, hx0, hx1, hx2, hx3, hx4⟩ := at_T56 HR0.out x10 p0 q0
     cases ea
     have CX := Aside0.mk (show 0 ≤ x10 ∧ x10 < (l0.length : Int) from ⟨c2, c1⟩)
     replace hx0 := (HB.out.cell (World.block_lt_of_cell? w _ hx0)).trans hx0
     replace hx1 := (HB.out.cell (World.block_lt_of_cell? w _ hx1)).trans hx1
     replace hx2 := (HB.out.cell (World.block_lt_of_cell? w _ hx2)).trans hx2
     replace hx3 := (HB.out.cell (World.block_lt_of_cell? w _ hx3)).trans hx3
     replace hx4 := (HB.out.cell (World.block_lt_of_cell? w _ hx4)).trans hx4
     replace p0 := eq_true p0
     replace q0 := eq_true q0
     clear c1 c2
     generalize (rd_T56 l0 x10).f0 = e0 at H hx0 hx1 hx2 hx3 hx4
     generalize (rd_T56 l0 x10).f1.f0 = e1 at H hx0 hx1 hx2 hx3 hx4
     generalize (rd_T56 l0 x10).f1.f1 = e2 at H hx0 hx1 hx2 hx3 hx4
     generalize (rd_T56 l0 x10).f2.f0 = e3 at H hx0 hx1 hx2 hx3 hx4
     generalize (rd_T56 l0 x10).f2.f1 = e4 at H hx0 hx1 hx2 hx3 hx4
     go_wp2_with (first | ((with_reducible refine gd (N := 7) rfl ?_); refine bx 7 (cs := #[.int .i64 0, .int .i64 0, .int .i64 0, .int .i64 0, .int .i64 0]) (t := 56) ?_; intro gn hg w5 hbox hb; have BN := Aside0.mk hbox; have GN := Aside0.mk ((by rw [hg]; exact (below_size (bs HB.out)) : w.heap.size ≤ gn)); replace HB := hs HB hb; have NE := Aside0.mk ((by rw [hg]; exact Nat.ne_of_lt (blk_lt (g := gb) (bf BK.out)) : gb ≠ gn)); replace BK := Aside0.mk (blk_below (g := gb) (bf BK.out) hb); clear hb hbox hg; have hcz0 : w5.cell? ⟨gn, 0, none⟩ = some (.int .i64 0) := (blk_cell BN.out 0).trans rfl; have hcz1 : w5.cell? ⟨gn, 1, none⟩ = some (.int .i64 0) := (blk_cell BN.out 1).trans rfl; have hcz2 : w5.cell? ⟨gn, 2, none⟩ = some (.int .i64 0) := (blk_cell BN.out 2).trans rfl; have hcz3 : w5.cell? ⟨gn, 3, none⟩ = some (.int .i64 0) := (blk_cell BN.out 3).trans rfl; have hcz4 : w5.cell? ⟨gn, 4, none⟩ = some (.int .i64 0) := (blk_cell BN.out 4).trans rfl; have hfz0 := blk_frozen BN.out 0; have hfz1 := blk_frozen BN.out 1; have hfz2 := blk_frozen BN.out 2; have hfz3 := blk_frozen BN.out 3; have hfz4 := blk_frozen BN.out 4))
     have n0_ := Aside0.mk (blk_far (blk_far (blk_far (blk_far (blk_far (BK.out) (p := ⟨gn, 0, none⟩) NE.out (.int .i64 e0)) (p := ⟨gn, 1, none⟩) NE.out (.int .i64 e1)) (p := ⟨gn, 2, none⟩) NE.out (.int .i64 e2)) (p := ⟨gn, 3, none⟩) NE.out (.int .i64 e3)) (p := ⟨gn, 4, none⟩) NE.out (.int .i64 e4))
     have n1_ := Aside0.mk (blk_put (cs' := #[.int .i64 e0, .int .i64 e1, .int .i64 e2, .int .i64 e3, .int .i64 e4]) (blk_put (cs' := #[.int .i64 e0, .int .i64 e1, .int .i64 e2, .int .i64 e3, .int .i64 0]) (blk_put (cs' := #[.int .i64 e0, .int .i64 e1, .int .i64 e2, .int .i64 0, .int .i64 0]) (blk_put (cs' := #[.int .i64 e0, .int .i64 e1, .int .i64 0, .int .i64 0, .int .i64 0]) (blk_put (cs' := #[.int .i64 e0, .int .i64 0, .int .i64 0, .int .i64 0, .int .i64 0]) (BN.out) 0 (.int .i64 e0) rfl) 1 (.int .i64 e1) rfl) 2 (.int .i64 e2) rfl) 3 (.int .i64 e3) rfl) 4 (.int .i64 e4) rfl)
     have n2_ := Aside0.mk (below_set (j := 4) (v := .int .i64 e4) (below_set (j := 3) (v := .int .i64 e3) (below_set (j := 2) (v := .int .i64 e2) (below_set (j := 1) (v := .int .i64 e1) (below_set (j := 0) (v := .int .i64 e0) (HB.out) GN.out) GN.out) GN.out) GN.out) GN.out)
     clear BK BN HB hcz0 hfz0 hcz1 hfz1 hcz2 hfz2 hcz3 hfz3 hcz4 hfz4
     have BK := n0_
     have BN := n1_
     have HB := n2_
     clear n0_ n1_ n2_
     generalize (((((w5).setCell ⟨gn, 0, none⟩ (.int .i64 e0)).setCell ⟨gn, 1, none⟩ (.int .i64 e1)).setCell ⟨gn, 2, none⟩ (.int .i64 e2)).setCell ⟨gn, 3, none⟩ (.int .i64 e3)).setCell ⟨gn, 4, none⟩ (.int .i64 e4) = w6 at BK BN HB ⊢
     refine (impl_EdgeOk.calls e0 e1 e2 e3 e4 (EOk e0 e1 e2 e3 e4) _ rfl).mono ?_
     rintro e w7 ⟨rfl, hb⟩
     have n0_ := Aside0.mk (blk_below BK.out hb)
     have n1_ := Aside0.mk (blk_below BN.out hb)
     have n2_ := Aside0.mk (below_step (bs HB.out) hb)
     clear BK BN HB hb
     have BK := n0_
     have BN := n1_
     have HB := n2_
     clear n0_ n1_ n2_
     have hcz0 : w7.cell? ⟨gn, 0, none⟩ = some (.int .i64 e0) := (blk_cell BN.out 0).trans rfl
     have hcz1 : w7.cell? ⟨gn, 1, none⟩ = some (.int .i64 e1) := (blk_cell BN.out 1).trans rfl
     have hcz2 : w7.cell? ⟨gn, 2, none⟩ = some (.int .i64 e2) := (blk_cell BN.out 2).trans rfl
     have hcz3 : w7.cell? ⟨gn, 3, none⟩ = some (.int .i64 e3) := (blk_cell BN.out 3).trans rfl
     have hcz4 : w7.cell? ⟨gn, 4, none⟩ = some (.int .i64 e4) := (blk_cell BN.out 4).trans rfl
     by_cases c3 : EOk e0 e1 e2 e3 e4 = true
     ·rw [if_pos c3] at H
      have HL := Aside0.mk (EOk_l c3)
      obtain ⟨j0, hj0⟩ := Int.eq_ofNat_of_zero_le HL.out.1
      have hcm0 : w7.cell? ⟨gb, j0, none⟩ = some (.int .i64 (rd m e0)) := by rw [hj0]; exact (blk_cell BK.out j0).trans (cts_get m j0 (by have := HM.out; have := HL.out.2; omega))
      have htn : (e0 : Int).toNat = j0 := by omega
      have hcm : w7.cell? ⟨gb, (e0 : Int).toNat, none⟩ = some (.int .i64 (rd m e0)) := by rw [htn]; exact hcm0
      have hfm := blk_frozen BK.out (e0 : Int).toNat
      have hlo : (0 ≤ e0) = True := eq_true HL.out.1
      have hhi : (e0 < 8) = True := eq_true (by have := HL.out.2; omega)
      have hn8 : (e0 : Int).toNat < 8 := by have := HL.out; omega
      clear hj0 hcm0 htn j0
      by_cases c4 : rd m e0 = 7
      ·rw [if_pos c4] at H
       have c4b0 : (rd m e0 == 7) = true := beq_iff_eq.mpr c4
       clear c4
       obtain rfl := Option.some.inj H
       go_wp2
       go_ret
       exact ⟨by first | rfl | (simp; done) | (simp [*]; done), bs HB.out⟩
      ·rw [if_neg c4] at H
       have c4b0 : (rd m e0 == 7) = false := beq_eq_false_iff_ne.mpr c4
       clear c4
       by_cases c5 : x10 > 0
       ·rw [if_pos c5] at H
        have c5b0 : decide (0 < x10) = true := decide_eq_true c5
        have hwr : wrap64 (x10 - 1) = x10 - 1 := w64 (by have := CX.out; have := HR0.out.2.1; omega)
        rw [hwr] at H
        rw [if_pos (show 0 ≤ x10 - 1 by omega), if_pos (show x10 - 1 < (l0.length : Int) by have := CX.out; omega)] at H
        obtain ⟨q, hq⟩ : ∃ q, x10 - 1 = q := ⟨_, rfl⟩
        have hqw : wrap64 (x10 - 1) = q := hwr.trans hq
        rw [hq] at H
        have p1 : 0 ≤ q := by omega
        have q1 : q < (l0.length : Int) := by have := CX.out; omega
        obtain ⟨ad', ea', hy0, hy1, hy2, hy3, hy4⟩ := at_T56 HR0.out q p1 q1
        obtain rfl : ad = ad' := by injection ea'
        clear ea' hwr
        replace hq := Aside0.mk hq
        replace hy0 : w7.cell? (ad.add (q.toNat * 5)) = some (.int .i64 (rd_T56 l0 q).f0) := (HB.out.cell (World.block_lt_of_cell? w _ hy0)).trans hy0
        replace hy1 : w7.cell? ⟨(ad.add (q.toNat * 5)).block, (ad.add (q.toNat * 5)).off + 1, none⟩ = some (.int .i64 (rd_T56 l0 q).f1.f0) := (HB.out.cell (World.block_lt_of_cell? w _ hy1)).trans hy1
        replace hy2 : w7.cell? ⟨(ad.add (q.toNat * 5)).block, (ad.add (q.toNat * 5)).off + 2, none⟩ = some (.int .i64 (rd_T56 l0 q).f1.f1) := (HB.out.cell (World.block_lt_of_cell? w _ hy2)).trans hy2
        replace hy3 : w7.cell? ⟨(ad.add (q.toNat * 5)).block, (ad.add (q.toNat * 5)).off + 3, none⟩ = some (.int .i64 (rd_T56 l0 q).f2.f0) := (HB.out.cell (World.block_lt_of_cell? w _ hy3)).trans hy3
        replace hy4 : w7.cell? ⟨(ad.add (q.toNat * 5)).block, (ad.add (q.toNat * 5)).off + 4, none⟩ = some (.int .i64 (rd_T56 l0 q).f2.f1) := (HB.out.cell (World.block_lt_of_cell? w _ hy4)).trans hy4
        replace p1 := eq_true p1
        replace q1 := eq_true q1
        generalize (rd_T56 l0 q).f0 = d0 at H hy0 hy1 hy2 hy3 hy4
        generalize (rd_T56 l0 q).f1.f0 = d1 at H hy0 hy1 hy2 hy3 hy4
        generalize (rd_T56 l0 q).f1.f1 = d2 at H hy0 hy1 hy2 hy3 hy4
        generalize (rd_T56 l0 q).f2.f0 = d3 at H hy0 hy1 hy2 hy3 hy4
        generalize (rd_T56 l0 q).f2.f1 = d4 at H hy0 hy1 hy2 hy3 hy4
        replace H := Option.bind_eq_some_iff.mp H
        obtain ⟨t, A30, H⟩ := H
        have A3 := Aside0.mk A30
        clear A30
        go_wp2
        refine wp_region_bel (by kernel_rfl) (by kernel_rfl) ?_
        clear hcz0 hcz1 hcz2 hcz3 hcz4 hcm hfm hlo hhi hn8
        replace BK := bd BK
        replace BN := Aside0.mk (blk_drew BN.out)
        replace HB := hd HB
        replace hy0 : w7.drew.cell? (ad.add (q.toNat * 5)) = some (.int .i64 d0) := hy0
        replace hy1 : w7.drew.cell? ⟨(ad.add (q.toNat * 5)).block, (ad.add (q.toNat * 5)).off + 1, none⟩ = some (.int .i64 d1) := hy1
        replace hy2 : w7.drew.cell? ⟨(ad.add (q.toNat * 5)).block, (ad.add (q.toNat * 5)).off + 2, none⟩ = some (.int .i64 d2) := hy2
        replace hy3 : w7.drew.cell? ⟨(ad.add (q.toNat * 5)).block, (ad.add (q.toNat * 5)).off + 3, none⟩ = some (.int .i64 d3) := hy3
        replace hy4 : w7.drew.cell? ⟨(ad.add (q.toNat * 5)).block, (ad.add (q.toNat * 5)).off + 4, none⟩ = some (.int .i64 d4) := hy4
        generalize w7.drew = w8 at BK BN HB hy0 hy1 hy2 hy3 hy4 ⊢
        have hz0 : ∀ p : Bel w8, p.v.cell? (ad.add (q.toNat * 5)) = some (.int .i64 d0) := fun p => cell_bel hy0 p
        have hz1 : ∀ p : Bel w8, p.v.cell? ⟨(ad.add (q.toNat * 5)).block, (ad.add (q.toNat * 5)).off + 1, none⟩ = some (.int .i64 d1) := fun p => cell_bel hy1 p
        have hz2 : ∀ p : Bel w8, p.v.cell? ⟨(ad.add (q.toNat * 5)).block, (ad.add (q.toNat * 5)).off + 2, none⟩ = some (.int .i64 d2) := fun p => cell_bel hy2 p
        have hz3 : ∀ p : Bel w8, p.v.cell? ⟨(ad.add (q.toNat * 5)).block, (ad.add (q.toNat * 5)).off + 3, none⟩ = some (.int .i64 d3) := fun p => cell_bel hy3 p
        have hz4 : ∀ p : Bel w8, p.v.cell? ⟨(ad.add (q.toNat * 5)).block, (ad.add (q.toNat * 5)).off + 4, none⟩ = some (.int .i64 d4) := fun p => cell_bel hy4 p
        clear hy0 hy1 hy2 hy3 hy4
        have hz5 : ∀ p : Bel w8, p.v.cell? ⟨gn, 0, none⟩ = some (.int .i64 e0) := fun p => cell_bel ((blk_cell BN.out 0).trans rfl) p
        have hz6 : ∀ p : Bel w8, p.v.cell? ⟨gn, 1, none⟩ = some (.int .i64 e1) := fun p => cell_bel ((blk_cell BN.out 1).trans rfl) p
        have hz7 : ∀ p : Bel w8, p.v.cell? ⟨gn, 2, none⟩ = some (.int .i64 e2) := fun p => cell_bel ((blk_cell BN.out 2).trans rfl) p
        have hz8 : ∀ p : Bel w8, p.v.cell? ⟨gn, 3, none⟩ = some (.int .i64 e3) := fun p => cell_bel ((blk_cell BN.out 3).trans rfl) p
        have hz9 : ∀ p : Bel w8, p.v.cell? ⟨gn, 4, none⟩ = some (.int .i64 e4) := fun p => cell_bel ((blk_cell BN.out 4).trans rfl) p
        by_cases c6 : t ≥ 0
        ·rw [if_pos c6] at H
         have c6b0 : decide (0 ≤ t) = true := decide_eq_true c6
         clear c6
         repeat (go_big_quiet_step (with_reducible exact calls_bel (impl_edgeOrder.calls k1 d0 d1 d2 d3 d4 e0 e1 e2 e3 e4 t _ A3.out)))
         refine wpQuiet_nil ?_
         intro w9 hw'
         obtain ⟨⟨wq_, hb⟩, hw''⟩ := hw'
         subst hw''
         clear hz0 hz1 hz2 hz3 hz4 hz5 hz6 hz7 hz8 hz9 hqw
         have n0_ := Aside0.mk (blk_below BK.out hb)
         have n1_ := Aside0.mk (blk_below BN.out hb)
         have n2_ := Aside0.mk (below_step (bs HB.out) hb)
         clear BK BN HB hb
         have BK := n0_
         have BN := n1_
         have HB := n2_
         clear n0_ n1_ n2_
         obtain rfl := Option.some.inj H
         go_wp2
         go_ret
         exact ⟨by first | rfl | (simp; done) | (simp [*]; done), bs HB.out⟩
        ·rw [if_neg c6] at H
         have c6b0 : decide (0 ≤ t) = false := decide_eq_false c6
         clear c6
         repeat (go_big_quiet_step (with_reducible exact calls_bel (impl_edgeOrder.calls k1 d0 d1 d2 d3 d4 e0 e1 e2 e3 e4 t _ A3.out)))
         refine wpQuiet_nil ?_
         intro w9 hw'
         obtain ⟨⟨wq_, hb⟩, hw''⟩ := hw'
         subst hw''
         clear hz0 hz1 hz2 hz3 hz4 hz5 hz6 hz7 hz8 hz9 hqw
         have n0_ := Aside0.mk (blk_below BK.out hb)
         have n1_ := Aside0.mk (blk_below BN.out hb)
         have n2_ := Aside0.mk (below_step (bs HB.out) hb)
         clear BK BN HB hb
         have BK := n0_
         have BN := n1_
         have HB := n2_
         clear n0_ n1_ n2_
         replace H := Option.bind_eq_some_iff.mp H
         obtain ⟨t1, A10, H⟩ := H
         have A1 := Aside0.mk A10
         clear A10
         have hcz0 : w9.cell? ⟨gn, 0, none⟩ = some (.int .i64 e0) := (blk_cell BN.out 0).trans rfl
         have hcz1 : w9.cell? ⟨gn, 1, none⟩ = some (.int .i64 e1) := (blk_cell BN.out 1).trans rfl
         have hcz2 : w9.cell? ⟨gn, 2, none⟩ = some (.int .i64 e2) := (blk_cell BN.out 2).trans rfl
         have hcz3 : w9.cell? ⟨gn, 3, none⟩ = some (.int .i64 e3) := (blk_cell BN.out 3).trans rfl
         have hcz4 : w9.cell? ⟨gn, 4, none⟩ = some (.int .i64 e4) := (blk_cell BN.out 4).trans rfl
         go_wp2_with fail
         refine (impl_nodeThere.calls k1 _ _ l1 e1 e2 t1 _ ?side1 HC1.out A1.out).mono ?_
         case side1 => exact Kd.C_below HR1.out (bs HB.out)
         rintro e w20 ⟨rfl, hb⟩
         clear hcz0 hcz1 hcz2 hcz3 hcz4
         have n0_ := Aside0.mk (blk_below BK.out hb)
         have n1_ := Aside0.mk (blk_below BN.out hb)
         have n2_ := Aside0.mk (below_step (bs HB.out) hb)
         clear BK BN HB hb
         have BK := n0_
         have BN := n1_
         have HB := n2_
         clear n0_ n1_ n2_
         by_cases c7 : t1 = true
         ·subst c7
          replace H : ((impl_nodeThere.f k1 l1 e3 e4).bind fun t2 => if t2 = true then impl_edgesOk.l0 k1 l0 l1 (m.set (e0 : Int).toNat (wrap64 (rd m e0 + 1))) (wrap64 (x10 + 1)) else some false) = some r := by rw [if_pos rfl] at H; exact H
          replace H := Option.bind_eq_some_iff.mp H
          obtain ⟨t2, A20, H⟩ := H
          have A2 := Aside0.mk A20
          clear A20
          have hcz0 : w20.cell? ⟨gn, 0, none⟩ = some (.int .i64 e0) := (blk_cell BN.out 0).trans rfl
          have hcz1 : w20.cell? ⟨gn, 1, none⟩ = some (.int .i64 e1) := (blk_cell BN.out 1).trans rfl
          have hcz2 : w20.cell? ⟨gn, 2, none⟩ = some (.int .i64 e2) := (blk_cell BN.out 2).trans rfl
          have hcz3 : w20.cell? ⟨gn, 3, none⟩ = some (.int .i64 e3) := (blk_cell BN.out 3).trans rfl
          have hcz4 : w20.cell? ⟨gn, 4, none⟩ = some (.int .i64 e4) := (blk_cell BN.out 4).trans rfl
          go_wp2_with fail
          refine (impl_nodeThere.calls k1 _ _ l1 e3 e4 t2 _ ?side1 HC1.out A2.out).mono ?_
          case side1 => exact Kd.C_below HR1.out (bs HB.out)
          rintro e w21 ⟨rfl, hb⟩
          clear hcz0 hcz1 hcz2 hcz3 hcz4
          have n0_ := Aside0.mk (blk_below BK.out hb)
          have n1_ := Aside0.mk (blk_below BN.out hb)
          have n2_ := Aside0.mk (below_step (bs HB.out) hb)
          clear BK BN HB hb
          have BK := n0_
          have BN := n1_
          have HB := n2_
          clear n0_ n1_ n2_
          by_cases c8 : t2 = true
          ·subst c8
           replace H : impl_edgesOk.l0 k1 l0 l1 (m.set (e0 : Int).toNat (wrap64 (rd m e0 + 1))) (wrap64 (x10 + 1)) = some r := by rw [if_pos rfl] at H; exact H
           have H' := Aside0.mk H
           clear H
           obtain ⟨j, rfl⟩ := Int.eq_ofNat_of_zero_le HL.out.1
           have hcz0 : w21.cell? ⟨gn, 0, none⟩ = some (.int .i64 (j : Int)) := (blk_cell BN.out 0).trans rfl
           have hj8 : j < 8 := by have := HL.out.2; omega
           have hjm : j < m.length := by have := HM.out; omega
           have hcm : w21.cell? ⟨gb, j, none⟩ = some (.int .i64 (rd m j)) := (blk_cell BK.out j).trans (cts_get m j hjm)
           have hfm := blk_frozen BK.out j
           have hlo : (0 ≤ (j : Int)) = True := eq_true (by omega)
           have hhi : ((j : Int) < 8) = True := eq_true (by omega)
           go_wp2
           go_roundg k1
           case measure => have := HK1.out; omega
           case rel => exact ⟨wrap64 (x10 + 1), m.set j (wrap64 (rd m (j : Int) + 1)), (by first | rfl | (simp; done) | (simp [*]; done)), ⟨by simpa using H'.out⟩, ⟨by simpa using HM.out⟩, ⟨by have := HK1.out; omega⟩, ⟨by refine blk_put ?_ j _ (cts_set m j _); exact bf BK.out⟩, ⟨bs HB.out⟩⟩
          ·replace c8 := Bool.eq_false_iff.mpr c8
           subst c8
           replace H : some false = some r := by rw [if_neg (by decide)] at H; exact H
           obtain rfl := Option.some.inj H
           go_wp2
           go_ret
           exact ⟨by first | rfl | (simp; done) | (simp [*]; done), bs HB.out⟩
         ·replace c7 := Bool.eq_false_iff.mpr c7
          subst c7
          replace H : some false = some r := by rw [if_neg (by decide)] at H; exact H
          obtain rfl := Option.some.inj H
          go_wp2
          go_ret
          exact ⟨by first | rfl | (simp; done) | (simp [*]; done), bs HB.out⟩
       ·rw [if_neg c5] at H
        have c5b0 : decide (0 < x10) = false := decide_eq_false c5
        clear c5
        go_wp2
        refine wp_region_bel (by kernel_rfl) (by kernel_rfl) ?_
        clear hcz0 hcz1 hcz2 hcz3 hcz4 hcm hfm hlo hhi hn8
        replace BK := bd BK
        replace BN := Aside0.mk (blk_drew BN.out)
        replace HB := hd HB
        generalize w7.drew = w8 at BK BN HB ⊢
        repeat (go_big_quiet_step (fail))
        refine wpQuiet_nil ?_
        intro w9 hw'
        obtain ⟨⟨wq_, hb⟩, hw''⟩ := hw'
        subst hw''
        have n0_ := Aside0.mk (blk_below BK.out hb)
        have n1_ := Aside0.mk (blk_below BN.out hb)
        have n2_ := Aside0.mk (below_step (bs HB.out) hb)
        clear BK BN HB hb
        have BK := n0_
        have BN := n1_
        have HB := n2_
        clear n0_ n1_ n2_
        replace H := Option.bind_eq_some_iff.mp H
        obtain ⟨t1, A10, H⟩ := H
        have A1 := Aside0.mk A10
        clear A10
        have hcz0 : w9.cell? ⟨gn, 0, none⟩ = some (.int .i64 e0) := (blk_cell BN.out 0).trans rfl
        have hcz1 : w9.cell? ⟨gn, 1, none⟩ = some (.int .i64 e1) := (blk_cell BN.out 1).trans rfl
        have hcz2 : w9.cell? ⟨gn, 2, none⟩ = some (.int .i64 e2) := (blk_cell BN.out 2).trans rfl
        have hcz3 : w9.cell? ⟨gn, 3, none⟩ = some (.int .i64 e3) := (blk_cell BN.out 3).trans rfl
        have hcz4 : w9.cell? ⟨gn, 4, none⟩ = some (.int .i64 e4) := (blk_cell BN.out 4).trans rfl
        go_wp2_with fail
        refine (impl_nodeThere.calls k1 _ _ l1 e1 e2 t1 _ ?side1 HC1.out A1.out).mono ?_
        case side1 => exact Kd.C_below HR1.out (bs HB.out)
        rintro e w20 ⟨rfl, hb⟩
        clear hcz0 hcz1 hcz2 hcz3 hcz4
        have n0_ := Aside0.mk (blk_below BK.out hb)
        have n1_ := Aside0.mk (blk_below BN.out hb)
        have n2_ := Aside0.mk (below_step (bs HB.out) hb)
        clear BK BN HB hb
        have BK := n0_
        have BN := n1_
        have HB := n2_
        clear n0_ n1_ n2_
        by_cases c7 : t1 = true
        ·subst c7
         replace H : ((impl_nodeThere.f k1 l1 e3 e4).bind fun t2 => if t2 = true then impl_edgesOk.l0 k1 l0 l1 (m.set (e0 : Int).toNat (wrap64 (rd m e0 + 1))) (wrap64 (x10 + 1)) else some false) = some r := by rw [if_pos rfl] at H; exact H
         replace H := Option.bind_eq_some_iff.mp H
         obtain ⟨t2, A20, H⟩ := H
         have A2 := Aside0.mk A20
         clear A20
         have hcz0 : w20.cell? ⟨gn, 0, none⟩ = some (.int .i64 e0) := (blk_cell BN.out 0).trans rfl
         have hcz1 : w20.cell? ⟨gn, 1, none⟩ = some (.int .i64 e1) := (blk_cell BN.out 1).trans rfl
         have hcz2 : w20.cell? ⟨gn, 2, none⟩ = some (.int .i64 e2) := (blk_cell BN.out 2).trans rfl
         have hcz3 : w20.cell? ⟨gn, 3, none⟩ = some (.int .i64 e3) := (blk_cell BN.out 3).trans rfl
         have hcz4 : w20.cell? ⟨gn, 4, none⟩ = some (.int .i64 e4) := (blk_cell BN.out 4).trans rfl
         go_wp2_with fail
         refine (impl_nodeThere.calls k1 _ _ l1 e3 e4 t2 _ ?side1 HC1.out A2.out).mono ?_
         case side1 => exact Kd.C_below HR1.out (bs HB.out)
         rintro e w21 ⟨rfl, hb⟩
         clear hcz0 hcz1 hcz2 hcz3 hcz4
         have n0_ := Aside0.mk (blk_below BK.out hb)
         have n1_ := Aside0.mk (blk_below BN.out hb)
         have n2_ := Aside0.mk (below_step (bs HB.out) hb)
         clear BK BN HB hb
         have BK := n0_
         have BN := n1_
         have HB := n2_
         clear n0_ n1_ n2_
         by_cases c8 : t2 = true
         ·subst c8
          replace H : impl_edgesOk.l0 k1 l0 l1 (m.set (e0 : Int).toNat (wrap64 (rd m e0 + 1))) (wrap64 (x10 + 1)) = some r := by rw [if_pos rfl] at H; exact H
          have H' := Aside0.mk H
          clear H
          obtain ⟨j, rfl⟩ := Int.eq_ofNat_of_zero_le HL.out.1
          have hcz0 : w21.cell? ⟨gn, 0, none⟩ = some (.int .i64 (j : Int)) := (blk_cell BN.out 0).trans rfl
          have hj8 : j < 8 := by have := HL.out.2; omega
          have hjm : j < m.length := by have := HM.out; omega
          have hcm : w21.cell? ⟨gb, j, none⟩ = some (.int .i64 (rd m j)) := (blk_cell BK.out j).trans (cts_get m j hjm)
          have hfm := blk_frozen BK.out j
          have hlo : (0 ≤ (j : Int)) = True := eq_true (by omega)
          have hhi : ((j : Int) < 8) = True := eq_true (by omega)
          go_wp2
          go_roundg k1
          case measure => have := HK1.out; omega
          case rel => exact ⟨wrap64 (x10 + 1), m.set j (wrap64 (rd m (j : Int) + 1)), (by first | rfl | (simp; done) | (simp [*]; done)), ⟨by simpa using H'.out⟩, ⟨by simpa using HM.out⟩, ⟨by have := HK1.out; omega⟩, ⟨by refine blk_put ?_ j _ (cts_set m j _); exact bf BK.out⟩, ⟨bs HB.out⟩⟩
         ·replace c8 := Bool.eq_false_iff.mpr c8
          subst c8
          replace H : some false = some r := by rw [if_neg (by decide)] at H; exact H
          obtain rfl := Option.some.inj H
          go_wp2
          go_ret
          exact ⟨by first | rfl | (simp; done) | (simp [*]; done), bs HB.out⟩
        ·replace c7 := Bool.eq_false_iff.mpr c7
         subst c7
         replace H : some false = some r := by rw [if_neg (by decide)] at H; exact H
         obtain rfl := Option.some.inj H
         go_wp2
         go_ret
         exact ⟨by first | rfl | (simp; done) | (simp [*]; done), bs HB.out⟩
     ·rw [if_neg c3] at H
      replace c3 := Bool.eq_false_iff.mpr c3
      obtain rfl := Option.some.inj H
      rw [c3]
      go_wp2
      go_ret
      exact ⟨by first | rfl | (simp; done) | (simp [*]; done), bs HB.out⟩
    ·rw [if_neg c2] at H; cases H
   ·rw [if_neg c1] at H
    have c1b0 : decide (x10 < (l0.length : Int)) = false := decide_eq_false c1
    clear c1
    obtain rfl := Option.some.inj H
    go_wp2
    go_ret
    exact ⟨by first | rfl | (simp; done) | (simp [*]; done), bs HB.out⟩

/-! ### impl_GraphOk: function 34 -/
def impl_GraphOk.f (k : Nat) (l0_0 : List (S36)) (l0_1 : List (S56)) : Option (Bool) := (impl_nodesOk.f k l0_0).bind fun t176 => (if t176 = true then ((impl_edgesOk.f k l0_1 l0_0).bind fun t177 => (some t177)) else (some false))
set_option maxHeartbeats 8000000 in
set_option maxRecDepth 100000 in
theorem impl_GraphOk.calls (k : Nat) (A0_0 : Option Addr) (c0_0 : Nat) (l0_0 : List (S36)) (A0_1 : Option Addr) (c0_1 : Nat) (l0_1 : List (S56)) (r : Bool) (w : World) (hr0_0 : Kd.C k36 w A0_0 l0_0.length l0_0) (hc0_0 : l0_0.length ≤ c0_0) (hr0_1 : Kd.C k56 w A0_1 l0_1.length l0_1) (hc0_1 : l0_1.length ≤ c0_1) (h : impl_GraphOk.f k l0_0 l0_1 = some r) :
  Calls Try.prog 34 #[.agg #[.slice A0_0 l0_0.length c0_0, .slice A0_1 l0_1.length c0_1]] w fun e w' => e = .returned (.bool r) ∧ Below w.heap.size w w' := by
 have hu34 := Try.underlying34
 have HR0_0 := Aside0.mk hr0_0
 have HC0_0 := Aside0.mk hc0_0
 clear hr0_0 hc0_0
 have HR0_1 := Aside0.mk hr0_1
 have HC0_1 := Aside0.mk hc0_1
 clear hr0_1 hc0_1
 have HB := Aside0.mk (Below.refl w.heap.size w)
 have H := h; unfold impl_GraphOk.f at H
 clear h
 replace H := Option.bind_eq_some_iff.mp H
 obtain ⟨t176, A20, H⟩ := H
 try dsimp -simprocs only at H
 have A2 := Aside0.mk A20
 clear A20
 by_cases c3 : t176 = true
 ·subst c3
  have H1 : ((impl_edgesOk.f k l0_1 l0_0).bind fun t177 => (some t177)) = some r := by rw [if_pos rfl] at H; exact H
  clear H
  have H := H1
  clear H1
  replace H := Option.bind_eq_some_iff.mp H
  obtain ⟨t177, A40, H⟩ := H
  try dsimp -simprocs only at H
  have A4 := Aside0.mk A40
  clear A40
  obtain rfl := Option.some.inj H
  go_enter Try.func34, Try.ntmps34
  go_wp2_with (first | ((with_reducible refine gd (N := 1) rfl ?_); refine bx 1 (cs := #[.slice A0_0 l0_0.length c0_0, .slice A0_1 l0_1.length c0_1]) (t := 34) ?_; intro gb175 hg w5 hbox hb; have BK175 := Aside0.mk (hbox); have GW175 := gwb HB hg; replace HB := hs HB hb; clear hb hbox hg; obtain ⟨hcz6_0, hcz6_1⟩ := bc2 (w := w5) BK175.out; have hfz6 := blk_frozen BK175.out) | ((with_reducible refine gc (f := 81) rfl ?_); refine gl 5 Try.func81 #[.slice A0_0 l0_0.length c0_0] ?_; (with_reducible refine (impl_nodesOk.calls k _ _ l0_0 true _ ?side1 ?side2 A2.out).mono ?_); (case side1 => exact Kd.C_below HR0_0.out (bs HB.out)); (case side2 => exact HC0_0.out); rintro e w7 ⟨rfl, hb⟩; refine ⟨_, rfl, ?_⟩; replace BK175 := bb BK175 hb rfl; replace HB := hs HB hb; (try clear hb); obtain ⟨hcz8_0, hcz8_1⟩ := bc2 (w := w7) BK175.out; have hfz8 := blk_frozen BK175.out) | (go_at_call 82; (with_reducible refine (impl_edgesOk.calls k _ _ l0_1 _ _ l0_0 t177 _ ?side1 ?side2 ?side3 ?side4 A4.out).mono ?_); (case side1 => exact Kd.C_below HR0_1.out (bs HB.out)); (case side2 => exact HC0_1.out); (case side3 => exact Kd.C_below HR0_0.out (bs HB.out)); (case side4 => exact HC0_0.out); rintro e w9 ⟨rfl, hb⟩; replace BK175 := bb BK175 hb rfl; replace HB := hs HB hb; (try clear hb)))
  go_ret
  exact ⟨by first | rfl | (simp [*, errW_none, errW_some] <;> rfl), bs HB.out⟩
 ·replace c3 := Bool.eq_false_iff.mpr c3
  subst c3
  have H1 : (some false) = some r := by rw [if_neg (show ¬ (false = true) by decide)] at H; exact H
  clear H
  have H := H1
  clear H1
  obtain rfl := Option.some.inj H
  go_enter Try.func34, Try.ntmps34
  go_wp2_with (first | ((with_reducible refine gd (N := 1) rfl ?_); refine bx 1 (cs := #[.slice A0_0 l0_0.length c0_0, .slice A0_1 l0_1.length c0_1]) (t := 34) ?_; intro gb175 hg w10 hbox hb; have BK175 := Aside0.mk (hbox); have GW175 := gwb HB hg; replace HB := hs HB hb; clear hb hbox hg; obtain ⟨hcz11_0, hcz11_1⟩ := bc2 (w := w10) BK175.out; have hfz11 := blk_frozen BK175.out) | ((with_reducible refine gc (f := 81) rfl ?_); refine gl 5 Try.func81 #[.slice A0_0 l0_0.length c0_0] ?_; (with_reducible refine (impl_nodesOk.calls k _ _ l0_0 false _ ?side1 ?side2 A2.out).mono ?_); (case side1 => exact Kd.C_below HR0_0.out (bs HB.out)); (case side2 => exact HC0_0.out); rintro e w12 ⟨rfl, hb⟩; refine ⟨_, rfl, ?_⟩; replace BK175 := bb BK175 hb rfl; replace HB := hs HB hb; (try clear hb)))
  go_ret
  exact ⟨by first | rfl | (simp [*, errW_none, errW_some] <;> rfl), bs HB.out⟩

/-! ### impl_GraphView: function 36 -/
mutual
def impl_GraphView.l0 : Nat → Int → List (S36) → Int → Int → List (S36) → List (S56) → List (S36) → Option ((List (S36)) × (List (S56)))
 | 0, _, _, _, _, _, _, _ => none
 | k + 1, x1, x15, x16, x17, x179000, x179001, x181000 => if x17 < x16 then (if 0 ≤ x17 then (if x17 < (x15.length : Int) then ((impl_LabelUnder.f ((rd_T36 x15 x17).f0) x1).bind fun t184 => (if t184 = true then (if x181000.length < 8796093022208 then (impl_GraphView.l0 k x1 x15 x16 (wrap64 (x17 + 1)) x179000 x179001 (x181000 ++ [(⟨(rd_T36 x15 x17).f0, (rd_T36 x15 x17).f1⟩ : S36)])) else (none)) else (impl_GraphView.l0 k x1 x15 x16 (wrap64 (x17 + 1)) x179000 x179001 x181000))) else (none)) else (none)) else (impl_GraphView.l1 k x1 x179001 (x179001.length : Int) 0 x181000 ([] : List (S56)))
def impl_GraphView.l1 : Nat → Int → List (S56) → Int → Int → List (S36) → List (S56) → Option ((List (S36)) × (List (S56)))
 | 0, _, _, _, _, _, _ => none
 | k + 1, x1, x33, x34, x35, x181000, x181001 => if x35 < x34 then (if 0 ≤ x35 then (if x35 < (x33.length : Int) then ((impl_LabelUnder.f ((rd_T56 x33 x35).f0) x1).bind fun t190 => (if t190 = true then (if x181001.length < 3518437208883 then (impl_GraphView.l1 k x1 x33 x34 (wrap64 (x35 + 1)) x181000 (x181001 ++ [(⟨(rd_T56 x33 x35).f0, (⟨(rd_T56 x33 x35).f1.f0, (rd_T56 x33 x35).f1.f1⟩ : S36), (⟨(rd_T56 x33 x35).f2.f0, (rd_T56 x33 x35).f2.f1⟩ : S36)⟩ : S56)])) else (none)) else (impl_GraphView.l1 k x1 x33 x34 (wrap64 (x35 + 1)) x181000 x181001))) else (none)) else (none)) else (some (x181000, x181001))
end
def impl_GraphView.f (k : Nat) (l0_0 : List (S36)) (l0_1 : List (S56)) (a1 : Int) : Option ((List (S36)) × (List (S56))) := (impl_GraphOk.f k l0_0 l0_1).bind fun t181 => (if t181 = true then (impl_GraphView.l0 k a1 l0_0 (l0_0.length : Int) 0 l0_0 l0_1 ([] : List (S36))) else (some (([] : List (S36)), ([] : List (S56)))))
set_option maxHeartbeats 8000000 in
set_option maxRecDepth 100000 in
theorem impl_GraphView.calls (k : Nat) (A0_0 : Option Addr) (c0_0 : Nat) (l0_0 : List (S36)) (A0_1 : Option Addr) (c0_1 : Nat) (l0_1 : List (S56)) (a1 : Int) (r1 : List (S36)) (r2 : List (S56)) (w : World) (hr0_0 : Kd.C k36 w A0_0 l0_0.length l0_0) (hc0_0 : l0_0.length ≤ c0_0) (hr0_1 : Kd.C k56 w A0_1 l0_1.length l0_1) (hc0_1 : l0_1.length ≤ c0_1) (h : impl_GraphView.f k l0_0 l0_1 a1 = some (r1, r2)) :
  Calls Try.prog 36 #[.agg #[.slice A0_0 l0_0.length c0_0, .slice A0_1 l0_1.length c0_1], .int .i64 a1] w fun e w' => ∃ v0_ v1_ : Value, e = .returned (.agg #[v0_, v1_]) ∧ Kd.R k36 36 w' w.heap.size (fun _ => True) v0_ r1 ∧ Kd.R k56 56 w' w.heap.size (fun _ => True) v1_ r2 ∧ Below w.heap.size w w' := by
 have hu34 := Try.underlying34
 have hu36 := Try.underlying36
 have hu56 := Try.underlying56
 have HR0_0 := Aside0.mk hr0_0
 have HC0_0 := Aside0.mk hc0_0
 clear hr0_0 hc0_0
 have HR0_1 := Aside0.mk hr0_1
 have HC0_1 := Aside0.mk hc0_1
 clear hr0_1 hc0_1
 have HB := Aside0.mk (Below.refl w.heap.size w)
 have H := h; unfold impl_GraphView.f at H
 clear h
 replace H := Option.bind_eq_some_iff.mp H
 obtain ⟨t181, A30, H⟩ := H
 try dsimp -simprocs only at H
 have A3 := Aside0.mk A30
 clear A30
 by_cases c4 : t181 = true
 ·subst c4
  have H1 : (impl_GraphView.l0 k a1 l0_0 (l0_0.length : Int) 0 l0_0 l0_1 ([] : List (S36))) = some (r1, r2) := by rw [if_pos rfl] at H; exact H
  clear H
  have H := H1
  clear H1
  have H' := Aside0.mk H
  clear H
  go_enter Try.func36, Try.ntmps36
  go_wp2_with (first | ((with_reducible refine gd (N := 2) rfl ?_); refine bx 2 (cs := #[.slice A0_0 l0_0.length c0_0, .slice A0_1 l0_1.length c0_1]) (t := 34) ?_; intro gb178 hg w5 hbox hb; have BK178 := Aside0.mk (hbox); have GW178 := gwb HB hg; replace HB := hs HB hb; clear hb hbox hg) | ((with_reducible refine gd (N := 4) rfl ?_); refine bx 4 (cs := #[.slice none 0 0, .slice none 0 0]) (t := 34) ?_; intro gb179 hg w6 hbox hb; have BK179 := Aside0.mk (hbox); have GW179 := gwb HB hg; replace HB := hs HB hb; have NB178_179 := nq BK178 hg; have NB179_178 := nq' BK178 hg; replace BK178 := bb BK178 hb rfl; clear hb hbox hg) | ((with_reducible refine gd (N := 5) rfl ?_); refine bx 5 (cs := #[.slice none 0 0, .slice none 0 0]) (t := 34) ?_; intro gb180 hg w7 hbox hb; have BK180 := Aside0.mk (hbox); have GW180 := gwb HB hg; replace HB := hs HB hb; have NB178_180 := nq BK178 hg; have NB180_178 := nq' BK178 hg; replace BK178 := bb BK178 hb rfl; have NB179_180 := nq BK179 hg; have NB180_179 := nq' BK179 hg; replace BK179 := bb BK179 hb rfl; clear hb hbox hg; have hnb8 := NB178_179.out; have hnc8 := NB179_178.out; have hnb9 := NB178_180.out; have hnc9 := NB180_178.out; obtain ⟨hcz10_0, hcz10_1⟩ := bc2 (w := w7) BK178.out; have hfz10 := blk_frozen BK178.out) | ((with_reducible refine gc (f := 34) rfl ?_); refine gl 11 Try.func34 #[.agg #[.slice A0_0 l0_0.length c0_0, .slice A0_1 l0_1.length c0_1]] ?_; (with_reducible refine (impl_GraphOk.calls k _ _ l0_0 _ _ l0_1 true _ ?side1 ?side2 ?side3 ?side4 A3.out).mono ?_); (case side1 => exact Kd.C_below HR0_0.out (bs HB.out)); (case side2 => exact HC0_0.out); (case side3 => exact Kd.C_below HR0_1.out (bs HB.out)); (case side4 => exact HC0_1.out); rintro e w11 ⟨rfl, hb⟩; refine ⟨_, rfl, ?_⟩; replace BK178 := bb BK178 hb rfl; replace BK179 := bb BK179 hb rfl; replace BK180 := bb BK180 hb rfl; replace HB := hs HB hb; (try clear hb); obtain ⟨hcz12_0, hcz12_1⟩ := bc2 (w := w11) BK178.out; have hfz12 := blk_frozen BK178.out))
  go_loopg [17] k (fun kq v17 w' => ∃ (x17_1 : Int) (x181000_1 : List (S36)) (u181000 : Value), v17 = .int .i64 x17_1 ∧ Aside0 (impl_GraphView.l0 kq a1 l0_0 (l0_0.length : Int) x17_1 l0_0 l0_1 x181000_1 = some (r1, r2)) ∧ Aside0 (kq ≤ k) ∧ Aside0 (Kd.R k36 36 w' w.heap.size (fun _ => True) u181000 x181000_1) ∧ Aside0 (w'.heap[gb178]? = some (.cells #[(.slice A0_0 l0_0.length c0_0), (.slice A0_1 l0_1.length c0_1)] 34 (0, 0))) ∧ Aside0 (w'.heap[gb179]? = some (.cells #[(.slice none 0 0), (.slice none 0 0)] 34 (0, 0))) ∧ Aside0 (w'.heap[gb180]? = some (.cells #[u181000, (.slice none 0 0)] 34 (0, 0))) ∧ Aside0 (Below w.heap.size w w'))
  case atStart => exact ⟨(0), (([] : List (S36))), (.slice none 0 0), (by first | rfl | (simp; done) | (simp [*]; done)), H', ⟨Nat.le_refl _⟩, ⟨by first | exact Kd.R_nil _ _ _ _ _ | exact Kd.N_nil _ _ _ _ _ | exact Kd.V_nil _ _ _ _ _ | exact Kd.Q_nil _ _ _ _ _ | exact Kd.S_nil _ _ _ _ _⟩, ⟨bf BK178.out⟩, ⟨bf BK179.out⟩, ⟨bf BK180.out⟩, ⟨bs HB.out⟩⟩
  case round =>
   clear H'
   try clear p2
   try clear c3
   try clear c4
   try clear c8
   try clear c9
   try clear hcz10_0 hcz10_1
   try clear hcz12_0 hcz12_1
   try clear hfz10
   try clear hfz12
   obtain ⟨x17_1, x181000_1, u181000, rfl, HA, HK1, HO_181000, BK178, BK179, BK180, HB⟩ := hrel
   cases gk with
   | zero => exact absurd HA.out (by simp [impl_GraphView.l0])
   | succ k1 =>
    have H := HA.out
    clear HA
    simp only [impl_GraphView.l0] at H
    by_cases c13 : x17_1 < (l0_0.length : Int)
    ·rw [if_pos c13] at H
     have c13b0 : decide (x17_1 < (l0_0.length : Int)) = true := decide_eq_true c13
     clear c13
     by_cases c14 : 0 ≤ x17_1
     ·rw [if_pos c14] at H
      have c14b0 : decide (0 ≤ x17_1) = true := decide_eq_true c14
      clear c14
      by_cases c15 : x17_1 < (l0_0.length : Int)
      ·rw [if_pos c15] at H
       have c15b0 : decide (x17_1 < (l0_0.length : Int)) = true := decide_eq_true c15
       clear c15
       replace H := Option.bind_eq_some_iff.mp H
       obtain ⟨t184, A160, H⟩ := H
       try dsimp -simprocs only at H
       have A16 := Aside0.mk A160
       clear A160
       by_cases c17 : t184 = true
       ·subst c17
        have H1 : (if x181000_1.length < 8796093022208 then (impl_GraphView.l0 k1 a1 l0_0 (l0_0.length : Int) (wrap64 (x17_1 + 1)) l0_0 l0_1 (x181000_1 ++ [(⟨(rd_T36 l0_0 x17_1).f0, (rd_T36 l0_0 x17_1).f1⟩ : S36)])) else (none)) = some (r1, r2) := by rw [if_pos rfl] at H; exact H
        clear H
        have H := H1
        clear H1
        by_cases c18 : x181000_1.length < 8796093022208
        ·rw [if_pos c18] at H
         have LMc18 := Aside0.mk c18
         clear c18
         obtain ⟨y185, hy185⟩ : ∃ y_ : List (S36), y_ = (x181000_1 ++ [(⟨(rd_T36 l0_0 x17_1).f0, (rd_T36 l0_0 x17_1).f1⟩ : S36)]) := ⟨_, rfl⟩
         replace H : (impl_GraphView.l0 k1 a1 l0_0 (l0_0.length : Int) (wrap64 (x17_1 + 1)) l0_0 l0_1 y185) = some (r1, r2) := by first | (rw [hy185]; exact H) | exact H
         have Ny185 := Aside0.mk hy185
         clear hy185
         have H' := Aside0.mk H
         clear H
         have p182 : 0 ≤ (x17_1 : Int) := of_decide_eq_true (by first | (with_reducible assumption) | assumption)
         have q182 : x17_1 < (l0_0.length : Int) := of_decide_eq_true (by first | (with_reducible assumption) | assumption)
         obtain ⟨ad182, e182, hx182_0, hx182_1⟩ := at_T36 HR0_0.out x17_1 p182 q182
         cases e182
         replace hx182_0 := (HB.out.cell (World.block_lt_of_cell? w _ hx182_0)).trans hx182_0
         replace hx182_1 := (HB.out.cell (World.block_lt_of_cell? w _ hx182_1)).trans hx182_1
         replace p182 := eq_true p182
         replace q182 := eq_true q182
         go_wp2_with (first | ((with_reducible refine gd (N := 7) rfl ?_); refine bx 7 (cs := #[.int .i64 0, .int .i64 0]) (t := 36) ?_; intro gb183 hg w19 hbox hb; replace HO_181000 := Aside0.mk (Kd.R_below (Kd.R_elderB (rl HO_181000.out) gb183 (Nat.le_of_eq hg.symm)) hb); have BK183 := Aside0.mk (hbox); have GW183 := gwb HB hg; replace HB := hs HB hb; have NB178_183 := nq BK178 hg; have NB183_178 := nq' BK178 hg; replace BK178 := bb BK178 hb rfl; have NB179_183 := nq BK179 hg; have NB183_179 := nq' BK179 hg; replace BK179 := bb BK179 hb rfl; have NB180_183 := nq BK180 hg; have NB183_180 := nq' BK180 hg; replace BK180 := bb BK180 hb rfl; clear hb hbox hg; have hnb20 := NB183_178.out; have hnc20 := NB178_183.out; have hnb21 := NB183_179.out; have hnc21 := NB179_183.out; have hnb22 := NB183_180.out; have hnc22 := NB180_183.out; obtain ⟨hcz23_0, hcz23_1⟩ := bc2 (w := w19) BK183.out; have hfz23 := blk_frozen BK183.out) | ((with_reducible refine gc (f := 47) rfl ?_); refine gl 24 Try.func47 #[.int .i64 ((rd_T36 l0_0 x17_1).f0), .int .i64 a1] ?_; (with_reducible refine (impl_LabelUnder.calls ((rd_T36 l0_0 x17_1).f0) a1 true _ A16.out).mono ?_); rintro e w' ⟨rfl, ⟨nd, rfl⟩⟩; refine ⟨_, rfl, ?_⟩; have hnb24 := NB180_178.out; have hnc24 := NB178_180.out; have hnb25 := NB180_179.out; have hnc25 := NB179_180.out; obtain ⟨hcz26_0, hcz26_1⟩ := bc2 (w := w19) BK180.out; have hfz26 := blk_frozen BK180.out) | ((with_reducible refine gate_builtin (b := .append) (xs := #[.tmp 26, .tmp 28]) rfl ?_); at_builtin; refine Kd.R_append k36 (w0 := w) w.heap.size rfl (.tmp 26) (.tmp 28) 29 36 (.agg #[(.int .i64 0), (.int .i64 0)]) 16 rfl Try.underlying29 info36 rfl (by decide) (by omega) u181000 x181000_1 (⟨(rd_T36 l0_0 x17_1).f0, (rd_T36 l0_0 x17_1).f1⟩ : S36) [.int .i64 ((rd_T36 l0_0 x17_1).f0), .int .i64 ((rd_T36 l0_0 x17_1).f1)] (fun k_ => k_ ≠ gb183) (fun _ => False) rfl (by first | (go_simp; done) | (go_simp; rfl)) ?aP (fun _ hk => hk.elim) ?aF ?aO ?aB ?aS ?aL ?_; (case aP => exact k36_mkM _ _ _ (⟨(rd_T36 l0_0 x17_1).f0, (rd_T36 l0_0 x17_1).f1⟩ : S36)); (case aB => exact (bs HB.out)); (case aF => exact (fun k_ hk => Kd.freshB (g := gb183) (o := .cells #[.int .i64 ((rd_T36 l0_0 x17_1).f0), .int .i64 ((rd_T36 l0_0 x17_1).f1)] 36 (0, 0)) (bp BK183.out rfl) k_ hk)); (case aO => exact (by (with_reducible repeat (first | apply Kd.R_alloc | apply Kd.R_drewN | apply Kd.R_drew)); exact Kd.R_mono (Kd.R_far (p := ⟨gb183, 1, none⟩) (Kd.R_far (p := ⟨gb183, 0, none⟩) (Kd.R_mono HO_181000.out (fun k_ hk => (⟨hk, hk.2⟩ : _ ∧ k_ ≠ gb183))) (fun _ hk => hk.2) (.int .i64 ((rd_T36 l0_0 x17_1).f0))) (fun _ hk => hk.2) (.int .i64 ((rd_T36 l0_0 x17_1).f1))) (fun _ hk => hk.1.2))); (case aS => exact (below_size (bs HB.out))); (case aL => have := LMc18.out; omega); intro v186 w27 ho hb hg hat; rw [← Ny185.out] at ho; replace BK178 := gr BK178 HO_181000 hg; replace BK179 := gr BK179 HO_181000 hg; replace BK180 := gr BK180 HO_181000 hg; replace BK183 := Aside0.mk (blk_grown (g := gb183) (o := .cells #[.int .i64 ((rd_T36 l0_0 x17_1).f0), .int .i64 ((rd_T36 l0_0 x17_1).f1)] 36 (0, 0)) (bp BK183.out rfl) hg (Kd.R_away HO_181000.out (fun _ hk => hk.2))); replace HB := Aside0.mk (hb); have HO187 := Aside0.mk (ho); clear HO_181000; clear ho hb hg hat; obtain ⟨Ao28, co28, eo28⟩ := Kd.R_slice HO187.out; subst eo28; obtain ⟨hcz29_0, hcz29_1⟩ := bc2 (w := w27) BK180.out; have hfz29 := blk_frozen BK180.out))
         go_roundg k1
         case measure => have := HK1.out; omega
         case rel => exact ⟨(wrap64 (x17_1 + 1)), (y185), (.slice Ao28 y185.length co28), (by first | rfl | (simp; done) | (simp [*]; done)), H', ⟨by have := HK1.out; omega⟩, ⟨Kd.R_mono (rt HO187.out BK180.out (by decide)) (fun _ hk => trivial)⟩, ⟨bf BK178.out⟩, ⟨bf BK179.out⟩, ⟨by (with_reducible repeat (first | refine blk_drewN ?_ _ | refine blk_drew ?_ | refine blk_alloc ?_ _)); refine blk_put (cs := #[u181000, .slice none 0 0]) ?_ 0 _ rfl; exact bf BK180.out⟩, ⟨bs HB.out⟩⟩
        ·rw [if_neg c18] at H
         exact absurd H (by simp)
       ·replace c17 := Bool.eq_false_iff.mpr c17
        subst c17
        have H1 : (impl_GraphView.l0 k1 a1 l0_0 (l0_0.length : Int) (wrap64 (x17_1 + 1)) l0_0 l0_1 x181000_1) = some (r1, r2) := by rw [if_neg (show ¬ (false = true) by decide)] at H; exact H
        clear H
        have H := H1
        clear H1
        have H' := Aside0.mk H
        clear H
        have p182 : 0 ≤ (x17_1 : Int) := of_decide_eq_true (by first | (with_reducible assumption) | assumption)
        have q182 : x17_1 < (l0_0.length : Int) := of_decide_eq_true (by first | (with_reducible assumption) | assumption)
        obtain ⟨ad182, e182, hx182_0, hx182_1⟩ := at_T36 HR0_0.out x17_1 p182 q182
        cases e182
        replace hx182_0 := (HB.out.cell (World.block_lt_of_cell? w _ hx182_0)).trans hx182_0
        replace hx182_1 := (HB.out.cell (World.block_lt_of_cell? w _ hx182_1)).trans hx182_1
        replace p182 := eq_true p182
        replace q182 := eq_true q182
        go_wp2_with (first | ((with_reducible refine gd (N := 7) rfl ?_); refine bx 7 (cs := #[.int .i64 0, .int .i64 0]) (t := 36) ?_; intro gb183 hg w30 hbox hb; replace HO_181000 := Aside0.mk (Kd.R_below (Kd.R_elderB (rl HO_181000.out) gb183 (Nat.le_of_eq hg.symm)) hb); have BK183 := Aside0.mk (hbox); have GW183 := gwb HB hg; replace HB := hs HB hb; have NB178_183 := nq BK178 hg; have NB183_178 := nq' BK178 hg; replace BK178 := bb BK178 hb rfl; have NB179_183 := nq BK179 hg; have NB183_179 := nq' BK179 hg; replace BK179 := bb BK179 hb rfl; have NB180_183 := nq BK180 hg; have NB183_180 := nq' BK180 hg; replace BK180 := bb BK180 hb rfl; clear hb hbox hg; have hnb31 := NB183_178.out; have hnc31 := NB178_183.out; have hnb32 := NB183_179.out; have hnc32 := NB179_183.out; have hnb33 := NB183_180.out; have hnc33 := NB180_183.out; obtain ⟨hcz34_0, hcz34_1⟩ := bc2 (w := w30) BK183.out; have hfz34 := blk_frozen BK183.out) | ((with_reducible refine gc (f := 47) rfl ?_); refine gl 24 Try.func47 #[.int .i64 ((rd_T36 l0_0 x17_1).f0), .int .i64 a1] ?_; (with_reducible refine (impl_LabelUnder.calls ((rd_T36 l0_0 x17_1).f0) a1 false _ A16.out).mono ?_); rintro e w' ⟨rfl, ⟨nd, rfl⟩⟩; refine ⟨_, rfl, ?_⟩))
        go_roundg k1
        case measure => have := HK1.out; omega
        case rel => exact ⟨(wrap64 (x17_1 + 1)), (x181000_1), (u181000), (by first | rfl | (simp; done) | (simp [*]; done)), H', ⟨by have := HK1.out; omega⟩, ⟨by (with_reducible repeat (first | apply Kd.R_alloc | apply Kd.R_drewN | apply Kd.R_drew)); exact Kd.R_mono (Kd.R_far (p := ⟨gb183, 1, none⟩) (Kd.R_far (p := ⟨gb183, 0, none⟩) (Kd.R_mono HO_181000.out (fun k_ hk => (⟨hk, hk.2⟩ : _ ∧ k_ ≠ gb183))) (fun _ hk => hk.2) (.int .i64 ((rd_T36 l0_0 x17_1).f0))) (fun _ hk => hk.2) (.int .i64 ((rd_T36 l0_0 x17_1).f1))) (fun _ hk => trivial)⟩, ⟨bf BK178.out⟩, ⟨bf BK179.out⟩, ⟨bf BK180.out⟩, ⟨bs HB.out⟩⟩
      ·rw [if_neg c15] at H
       exact absurd H (by simp)
     ·rw [if_neg c14] at H
      exact absurd H (by simp)
    ·rw [if_neg c13] at H
     have c13b0 : decide (x17_1 < (l0_0.length : Int)) = false := decide_eq_false c13
     clear c13
     have H' := Aside0.mk H
     clear H
     have hnb35 := NB178_179.out
     have hnc35 := NB179_178.out
     have hnb36 := NB178_180.out
     have hnc36 := NB180_178.out
     obtain ⟨hcz37_0, hcz37_1⟩ := bc2 (w := wr) BK178.out
     have hfz37 := blk_frozen BK178.out
     go_wp2
     go_loopg [35] k1 (fun kq v35 w' => ∃ (x35_2 : Int) (x181001_2 : List (S56)) (u181001 : Value), v35 = .int .i64 x35_2 ∧ Aside0 (impl_GraphView.l1 kq a1 l0_1 (l0_1.length : Int) x35_2 x181000_1 x181001_2 = some (r1, r2)) ∧ Aside0 (kq ≤ k1) ∧ Aside0 (Kd.R k36 36 w' w.heap.size (fun _ => True) u181000 x181000_1) ∧ Aside0 (Kd.R k56 56 w' w.heap.size (fun _ => True) u181001 x181001_2) ∧ Aside0 (w'.heap[gb178]? = some (.cells #[(.slice A0_0 l0_0.length c0_0), (.slice A0_1 l0_1.length c0_1)] 34 (0, 0))) ∧ Aside0 (w'.heap[gb179]? = some (.cells #[(.slice none 0 0), (.slice none 0 0)] 34 (0, 0))) ∧ Aside0 (w'.heap[gb180]? = some (.cells #[u181000, u181001] 34 (0, 0))) ∧ Aside0 (Below w.heap.size w w'))
     case atStart => exact ⟨(0), (([] : List (S56))), (.slice none 0 0), (by first | rfl | (simp; done) | (simp [*]; done)), H', ⟨Nat.le_refl _⟩, ⟨rl HO_181000.out⟩, ⟨by first | exact Kd.R_nil _ _ _ _ _ | exact Kd.N_nil _ _ _ _ _ | exact Kd.V_nil _ _ _ _ _ | exact Kd.Q_nil _ _ _ _ _ | exact Kd.S_nil _ _ _ _ _⟩, ⟨bf BK178.out⟩, ⟨bf BK179.out⟩, ⟨bf BK180.out⟩, ⟨bs HB.out⟩⟩
     case round =>
      clear H'
      try clear c1
      try clear p1
      try clear q1
      try clear hx1
      try clear c2
      try clear p2
      try clear c3
      try clear c4
      try clear p6
      try clear c8
      try clear c9
      try clear c13
      try clear c13b0
      try clear c14
      try clear c14b0
      try clear c15
      try clear c15b0
      try clear c17
      try clear c18
      try clear p18
      try clear q18
      try clear hx18
      try clear c20
      try clear c21
      try clear c22
      try clear c24
      try clear c25
      try clear c31
      try clear c32
      try clear c33
      try clear c34
      try clear c35
      try clear c36
      try clear hcz10_0 hcz10_1
      try clear hcz12_0 hcz12_1
      try clear hcz23_0 hcz23_1
      try clear hcz26_0 hcz26_1
      try clear hcz29_0 hcz29_1
      try clear hcz34_0 hcz34_1
      try clear hcz37_0 hcz37_1
      try clear hfz10
      try clear hfz12
      try clear hfz23
      try clear hfz26
      try clear hfz29
      try clear hfz34
      try clear hfz37
      try clear hx182_0
      try clear hx182_1
      try clear p182
      try clear p2
      try clear q182
      obtain ⟨x35_2, x181001_2, u181001, rfl, HA, HK2, HO_181000, HO_181001, BK178, BK179, BK180, HB⟩ := hrel
      cases gk with
      | zero => exact absurd HA.out (by simp [impl_GraphView.l1])
      | succ k2 =>
       have H := HA.out
       clear HA
       simp only [impl_GraphView.l1] at H
       by_cases c38 : x35_2 < (l0_1.length : Int)
       ·rw [if_pos c38] at H
        have c38b0 : decide (x35_2 < (l0_1.length : Int)) = true := decide_eq_true c38
        clear c38
        by_cases c39 : 0 ≤ x35_2
        ·rw [if_pos c39] at H
         have c39b0 : decide (0 ≤ x35_2) = true := decide_eq_true c39
         clear c39
         by_cases c40 : x35_2 < (l0_1.length : Int)
         ·rw [if_pos c40] at H
          have c40b0 : decide (x35_2 < (l0_1.length : Int)) = true := decide_eq_true c40
          clear c40
          replace H := Option.bind_eq_some_iff.mp H
          obtain ⟨t190, A410, H⟩ := H
          try dsimp -simprocs only at H
          have A41 := Aside0.mk A410
          clear A410
          by_cases c42 : t190 = true
          ·subst c42
           have H1 : (if x181001_2.length < 3518437208883 then (impl_GraphView.l1 k2 a1 l0_1 (l0_1.length : Int) (wrap64 (x35_2 + 1)) x181000_1 (x181001_2 ++ [(⟨(rd_T56 l0_1 x35_2).f0, (⟨(rd_T56 l0_1 x35_2).f1.f0, (rd_T56 l0_1 x35_2).f1.f1⟩ : S36), (⟨(rd_T56 l0_1 x35_2).f2.f0, (rd_T56 l0_1 x35_2).f2.f1⟩ : S36)⟩ : S56)])) else (none)) = some (r1, r2) := by rw [if_pos rfl] at H; exact H
           clear H
           have H := H1
           clear H1
           by_cases c43 : x181001_2.length < 3518437208883
           ·rw [if_pos c43] at H
            have LMc43 := Aside0.mk c43
            clear c43
            obtain ⟨y191, hy191⟩ : ∃ y_ : List (S56), y_ = (x181001_2 ++ [(⟨(rd_T56 l0_1 x35_2).f0, (⟨(rd_T56 l0_1 x35_2).f1.f0, (rd_T56 l0_1 x35_2).f1.f1⟩ : S36), (⟨(rd_T56 l0_1 x35_2).f2.f0, (rd_T56 l0_1 x35_2).f2.f1⟩ : S36)⟩ : S56)]) := ⟨_, rfl⟩
            replace H : (impl_GraphView.l1 k2 a1 l0_1 (l0_1.length : Int) (wrap64 (x35_2 + 1)) x181000_1 y191) = some (r1, r2) := by first | (rw [hy191]; exact H) | exact H
            have Ny191 := Aside0.mk hy191
            clear hy191
            have H' := Aside0.mk H
            clear H
            have p188 : 0 ≤ (x35_2 : Int) := of_decide_eq_true (by first | (with_reducible assumption) | assumption)
            have q188 : x35_2 < (l0_1.length : Int) := of_decide_eq_true (by first | (with_reducible assumption) | assumption)
            obtain ⟨ad188, e188, hx188_0, hx188_1, hx188_2, hx188_3, hx188_4⟩ := at_T56 HR0_1.out x35_2 p188 q188
            cases e188
            replace hx188_0 := (HB.out.cell (World.block_lt_of_cell? w _ hx188_0)).trans hx188_0
            replace hx188_1 := (HB.out.cell (World.block_lt_of_cell? w _ hx188_1)).trans hx188_1
            replace hx188_2 := (HB.out.cell (World.block_lt_of_cell? w _ hx188_2)).trans hx188_2
            replace hx188_3 := (HB.out.cell (World.block_lt_of_cell? w _ hx188_3)).trans hx188_3
            replace hx188_4 := (HB.out.cell (World.block_lt_of_cell? w _ hx188_4)).trans hx188_4
            replace p188 := eq_true p188
            replace q188 := eq_true q188
            go_wp2_with (first | ((with_reducible refine gd (N := 9) rfl ?_); refine bx 9 (cs := #[.int .i64 0, .int .i64 0, .int .i64 0, .int .i64 0, .int .i64 0]) (t := 56) ?_; intro gb189 hg w44 hbox hb; replace HO_181000 := rb HO_181000 hb; replace HO_181001 := Aside0.mk (Kd.R_below (Kd.R_elderB (rl HO_181001.out) gb189 (Nat.le_of_eq hg.symm)) hb); have BK189 := Aside0.mk (hbox); have GW189 := gwb HB hg; replace HB := hs HB hb; have NB178_189 := nq BK178 hg; have NB189_178 := nq' BK178 hg; replace BK178 := bb BK178 hb rfl; have NB179_189 := nq BK179 hg; have NB189_179 := nq' BK179 hg; replace BK179 := bb BK179 hb rfl; have NB180_189 := nq BK180 hg; have NB189_180 := nq' BK180 hg; replace BK180 := bb BK180 hb rfl; clear hb hbox hg; have hnb45 := NB189_178.out; have hnc45 := NB178_189.out; have hnb46 := NB189_179.out; have hnc46 := NB179_189.out; have hnb47 := NB189_180.out; have hnc47 := NB180_189.out; obtain ⟨hcz48_0, hcz48_1, hcz48_2, hcz48_3, hcz48_4⟩ := bc5 (w := w44) BK189.out; have hfz48 := blk_frozen BK189.out) | ((with_reducible refine gc (f := 47) rfl ?_); refine gl 42 Try.func47 #[.int .i64 ((rd_T56 l0_1 x35_2).f0), .int .i64 a1] ?_; (with_reducible refine (impl_LabelUnder.calls ((rd_T56 l0_1 x35_2).f0) a1 true _ A41.out).mono ?_); rintro e w' ⟨rfl, ⟨nd, rfl⟩⟩; refine ⟨_, rfl, ?_⟩; have hnb49 := NB180_178.out; have hnc49 := NB178_180.out; have hnb50 := NB180_179.out; have hnc50 := NB179_180.out; obtain ⟨hcz51_0, hcz51_1⟩ := bc2 (w := w44) BK180.out; have hfz51 := blk_frozen BK180.out) | ((with_reducible refine gate_builtin (b := .append) (xs := #[.tmp 44, .tmp 46]) rfl ?_); at_builtin; refine Kd.R_append k56 (w0 := w) w.heap.size rfl (.tmp 44) (.tmp 46) 32 56 (.agg #[(.int .i64 0), (.int .i64 0), (.int .i64 0), (.int .i64 0), (.int .i64 0)]) 40 rfl Try.underlying32 info56 rfl (by decide) (by omega) u181001 x181001_2 (⟨(rd_T56 l0_1 x35_2).f0, (⟨(rd_T56 l0_1 x35_2).f1.f0, (rd_T56 l0_1 x35_2).f1.f1⟩ : S36), (⟨(rd_T56 l0_1 x35_2).f2.f0, (rd_T56 l0_1 x35_2).f2.f1⟩ : S36)⟩ : S56) [.int .i64 ((rd_T56 l0_1 x35_2).f0), .int .i64 ((rd_T56 l0_1 x35_2).f1.f0), .int .i64 ((rd_T56 l0_1 x35_2).f1.f1), .int .i64 ((rd_T56 l0_1 x35_2).f2.f0), .int .i64 ((rd_T56 l0_1 x35_2).f2.f1)] (fun k_ => k_ ≠ gb189) (fun _ => False) rfl (by first | (go_simp; done) | (go_simp; rfl)) ?aP (fun _ hk => hk.elim) ?aF ?aO ?aB ?aS ?aL ?_; (case aP => exact k56_mkM _ _ _ (⟨(rd_T56 l0_1 x35_2).f0, (⟨(rd_T56 l0_1 x35_2).f1.f0, (rd_T56 l0_1 x35_2).f1.f1⟩ : S36), (⟨(rd_T56 l0_1 x35_2).f2.f0, (rd_T56 l0_1 x35_2).f2.f1⟩ : S36)⟩ : S56)); (case aB => exact (bs HB.out)); (case aF => exact (fun k_ hk => Kd.freshB (g := gb189) (o := .cells #[.int .i64 ((rd_T56 l0_1 x35_2).f0), .int .i64 ((rd_T56 l0_1 x35_2).f1.f0), .int .i64 ((rd_T56 l0_1 x35_2).f1.f1), .int .i64 ((rd_T56 l0_1 x35_2).f2.f0), .int .i64 ((rd_T56 l0_1 x35_2).f2.f1)] 56 (0, 0)) (bp BK189.out rfl) k_ hk)); (case aO => exact (by (with_reducible repeat (first | apply Kd.R_alloc | apply Kd.R_drewN | apply Kd.R_drew)); exact Kd.R_mono (Kd.R_far (p := ⟨gb189, 4, none⟩) (Kd.R_far (p := ⟨gb189, 3, none⟩) (Kd.R_far (p := ⟨gb189, 2, none⟩) (Kd.R_far (p := ⟨gb189, 1, none⟩) (Kd.R_far (p := ⟨gb189, 0, none⟩) (Kd.R_mono HO_181001.out (fun k_ hk => (⟨hk, hk.2⟩ : _ ∧ k_ ≠ gb189))) (fun _ hk => hk.2) (.int .i64 ((rd_T56 l0_1 x35_2).f0))) (fun _ hk => hk.2) (.int .i64 ((rd_T56 l0_1 x35_2).f1.f0))) (fun _ hk => hk.2) (.int .i64 ((rd_T56 l0_1 x35_2).f1.f1))) (fun _ hk => hk.2) (.int .i64 ((rd_T56 l0_1 x35_2).f2.f0))) (fun _ hk => hk.2) (.int .i64 ((rd_T56 l0_1 x35_2).f2.f1))) (fun _ hk => hk.1.2))); (case aS => exact (below_size (bs HB.out))); (case aL => have := LMc43.out; omega); intro v192 w52 ho hb hg hat; rw [← Ny191.out] at ho; replace HO_181000 := Aside0.mk (Kd.R_over' (by (with_reducible repeat (first | apply Kd.R_alloc | apply Kd.R_drewN | apply Kd.R_drew)); exact (rt HO_181000.out BK189.out (by decide))) (Kd.R_typed (by (with_reducible repeat (first | apply Kd.R_alloc | apply Kd.R_drewN | apply Kd.R_drew)); exact (Kd.R_mono (Kd.R_far (p := ⟨gb189, 4, none⟩) (Kd.R_far (p := ⟨gb189, 3, none⟩) (Kd.R_far (p := ⟨gb189, 2, none⟩) (Kd.R_far (p := ⟨gb189, 1, none⟩) (Kd.R_far (p := ⟨gb189, 0, none⟩) (Kd.R_mono HO_181001.out (fun k_ hk => (⟨hk, hk.2⟩ : _ ∧ k_ ≠ gb189))) (fun _ hk => hk.2) (.int .i64 ((rd_T56 l0_1 x35_2).f0))) (fun _ hk => hk.2) (.int .i64 ((rd_T56 l0_1 x35_2).f1.f0))) (fun _ hk => hk.2) (.int .i64 ((rd_T56 l0_1 x35_2).f1.f1))) (fun _ hk => hk.2) (.int .i64 ((rd_T56 l0_1 x35_2).f2.f0))) (fun _ hk => hk.2) (.int .i64 ((rd_T56 l0_1 x35_2).f2.f1))) (fun _ h_ => h_.1)))) (by decide) hg); replace BK178 := gr BK178 HO_181001 hg; replace BK179 := gr BK179 HO_181001 hg; replace BK180 := gr BK180 HO_181001 hg; replace BK189 := Aside0.mk (blk_grown (g := gb189) (o := .cells #[.int .i64 ((rd_T56 l0_1 x35_2).f0), .int .i64 ((rd_T56 l0_1 x35_2).f1.f0), .int .i64 ((rd_T56 l0_1 x35_2).f1.f1), .int .i64 ((rd_T56 l0_1 x35_2).f2.f0), .int .i64 ((rd_T56 l0_1 x35_2).f2.f1)] 56 (0, 0)) (bp BK189.out rfl) hg (Kd.R_away HO_181001.out (fun _ hk => hk.2))); replace HB := Aside0.mk (hb); have HO193 := Aside0.mk (ho); clear HO_181001; clear ho hb hg hat; obtain ⟨Ao53, co53, eo53⟩ := Kd.R_slice HO193.out; subst eo53; obtain ⟨hcz54_0, hcz54_1⟩ := bc2 (w := w52) BK180.out; have hfz54 := blk_frozen BK180.out))
            go_roundg k2
            case measure => have := HK1.out; have := HK2.out; omega
            case rel => exact ⟨(wrap64 (x35_2 + 1)), (y191), (.slice Ao53 y191.length co53), (by first | rfl | (simp; done) | (simp [*]; done)), H', ⟨by have := HK1.out; have := HK2.out; omega⟩, ⟨Kd.R_mono (rt HO_181000.out BK180.out (by decide)) (fun _ hk => trivial)⟩, ⟨Kd.R_mono (rt HO193.out BK180.out (by decide)) (fun _ hk => trivial)⟩, ⟨bf BK178.out⟩, ⟨bf BK179.out⟩, ⟨by (with_reducible repeat (first | refine blk_drewN ?_ _ | refine blk_drew ?_ | refine blk_alloc ?_ _)); refine blk_put (cs := #[u181000, u181001]) ?_ 1 _ rfl; exact bf BK180.out⟩, ⟨bs HB.out⟩⟩
           ·rw [if_neg c43] at H
            exact absurd H (by simp)
          ·replace c42 := Bool.eq_false_iff.mpr c42
           subst c42
           have H1 : (impl_GraphView.l1 k2 a1 l0_1 (l0_1.length : Int) (wrap64 (x35_2 + 1)) x181000_1 x181001_2) = some (r1, r2) := by rw [if_neg (show ¬ (false = true) by decide)] at H; exact H
           clear H
           have H := H1
           clear H1
           have H' := Aside0.mk H
           clear H
           have p188 : 0 ≤ (x35_2 : Int) := of_decide_eq_true (by first | (with_reducible assumption) | assumption)
           have q188 : x35_2 < (l0_1.length : Int) := of_decide_eq_true (by first | (with_reducible assumption) | assumption)
           obtain ⟨ad188, e188, hx188_0, hx188_1, hx188_2, hx188_3, hx188_4⟩ := at_T56 HR0_1.out x35_2 p188 q188
           cases e188
           replace hx188_0 := (HB.out.cell (World.block_lt_of_cell? w _ hx188_0)).trans hx188_0
           replace hx188_1 := (HB.out.cell (World.block_lt_of_cell? w _ hx188_1)).trans hx188_1
           replace hx188_2 := (HB.out.cell (World.block_lt_of_cell? w _ hx188_2)).trans hx188_2
           replace hx188_3 := (HB.out.cell (World.block_lt_of_cell? w _ hx188_3)).trans hx188_3
           replace hx188_4 := (HB.out.cell (World.block_lt_of_cell? w _ hx188_4)).trans hx188_4
           replace p188 := eq_true p188
           replace q188 := eq_true q188
           go_wp2_with (first | ((with_reducible refine gd (N := 9) rfl ?_); refine bx 9 (cs := #[.int .i64 0, .int .i64 0, .int .i64 0, .int .i64 0, .int .i64 0]) (t := 56) ?_; intro gb189 hg w55 hbox hb; replace HO_181000 := rb HO_181000 hb; replace HO_181001 := Aside0.mk (Kd.R_below (Kd.R_elderB (rl HO_181001.out) gb189 (Nat.le_of_eq hg.symm)) hb); have BK189 := Aside0.mk (hbox); have GW189 := gwb HB hg; replace HB := hs HB hb; have NB178_189 := nq BK178 hg; have NB189_178 := nq' BK178 hg; replace BK178 := bb BK178 hb rfl; have NB179_189 := nq BK179 hg; have NB189_179 := nq' BK179 hg; replace BK179 := bb BK179 hb rfl; have NB180_189 := nq BK180 hg; have NB189_180 := nq' BK180 hg; replace BK180 := bb BK180 hb rfl; clear hb hbox hg; have hnb56 := NB189_178.out; have hnc56 := NB178_189.out; have hnb57 := NB189_179.out; have hnc57 := NB179_189.out; have hnb58 := NB189_180.out; have hnc58 := NB180_189.out; obtain ⟨hcz59_0, hcz59_1, hcz59_2, hcz59_3, hcz59_4⟩ := bc5 (w := w55) BK189.out; have hfz59 := blk_frozen BK189.out) | ((with_reducible refine gc (f := 47) rfl ?_); refine gl 42 Try.func47 #[.int .i64 ((rd_T56 l0_1 x35_2).f0), .int .i64 a1] ?_; (with_reducible refine (impl_LabelUnder.calls ((rd_T56 l0_1 x35_2).f0) a1 false _ A41.out).mono ?_); rintro e w' ⟨rfl, ⟨nd, rfl⟩⟩; refine ⟨_, rfl, ?_⟩))
           go_roundg k2
           case measure => have := HK1.out; have := HK2.out; omega
           case rel => exact ⟨(wrap64 (x35_2 + 1)), (x181001_2), (u181001), (by first | rfl | (simp; done) | (simp [*]; done)), H', ⟨by have := HK1.out; have := HK2.out; omega⟩, ⟨Kd.R_mono (rt HO_181000.out BK189.out (by decide)) (fun _ hk => trivial)⟩, ⟨by (with_reducible repeat (first | apply Kd.R_alloc | apply Kd.R_drewN | apply Kd.R_drew)); exact Kd.R_mono (Kd.R_far (p := ⟨gb189, 4, none⟩) (Kd.R_far (p := ⟨gb189, 3, none⟩) (Kd.R_far (p := ⟨gb189, 2, none⟩) (Kd.R_far (p := ⟨gb189, 1, none⟩) (Kd.R_far (p := ⟨gb189, 0, none⟩) (Kd.R_mono HO_181001.out (fun k_ hk => (⟨hk, hk.2⟩ : _ ∧ k_ ≠ gb189))) (fun _ hk => hk.2) (.int .i64 ((rd_T56 l0_1 x35_2).f0))) (fun _ hk => hk.2) (.int .i64 ((rd_T56 l0_1 x35_2).f1.f0))) (fun _ hk => hk.2) (.int .i64 ((rd_T56 l0_1 x35_2).f1.f1))) (fun _ hk => hk.2) (.int .i64 ((rd_T56 l0_1 x35_2).f2.f0))) (fun _ hk => hk.2) (.int .i64 ((rd_T56 l0_1 x35_2).f2.f1))) (fun _ hk => trivial)⟩, ⟨bf BK178.out⟩, ⟨bf BK179.out⟩, ⟨bf BK180.out⟩, ⟨bs HB.out⟩⟩
         ·rw [if_neg c40] at H
          exact absurd H (by simp)
        ·rw [if_neg c39] at H
         exact absurd H (by simp)
       ·rw [if_neg c38] at H
        have c38b0 : decide (x35_2 < (l0_1.length : Int)) = false := decide_eq_false c38
        clear c38
        simp only [Option.some.injEq, Prod.mk.injEq] at H
        obtain ⟨rfl, rfl⟩ := H
        have hnb60 := NB180_178.out
        have hnc60 := NB178_180.out
        have hnb61 := NB180_179.out
        have hnc61 := NB179_180.out
        obtain ⟨hcz62_0, hcz62_1⟩ := bc2 (w := wr) BK180.out
        have hfz62 := blk_frozen BK180.out
        obtain ⟨Ao63, co63, eo63⟩ := Kd.R_slice HO_181000.out
        subst eo63
        have hnb64 := NB179_178.out
        have hnc64 := NB178_179.out
        obtain ⟨hcz65_0, hcz65_1⟩ := bc2 (w := wr) BK179.out
        have hfz65 := blk_frozen BK179.out
        obtain ⟨Ao66, co66, eo66⟩ := Kd.R_slice HO_181001.out
        subst eo66
        go_wp2
        refine bodyPost_ret (results_cell_row rfl _ _ gb179 34 #[.slice Ao63 x181000_1.length co63, .slice Ao66 x181001_2.length co66] (0, 0) _ rfl (bp BK179.out rfl) Try.underlying34 rfl (by kernel_rfl)) rfl ?_
        exact ⟨_, _, by first | rfl | (simp [*, errW_none, errW_some] <;> rfl), Kd.R_mono (rt HO_181000.out BK179.out (by decide)) (fun _ hk => trivial), Kd.R_mono (rt HO_181001.out BK179.out (by decide)) (fun _ hk => trivial), bs HB.out⟩
 ·replace c4 := Bool.eq_false_iff.mpr c4
  subst c4
  have H1 : (some (([] : List (S36)), ([] : List (S56)))) = some (r1, r2) := by rw [if_neg (show ¬ (false = true) by decide)] at H; exact H
  clear H
  have H := H1
  clear H1
  simp only [Option.some.injEq, Prod.mk.injEq] at H
  obtain ⟨rfl, rfl⟩ := H
  go_enter Try.func36, Try.ntmps36
  go_wp2_with (first | ((with_reducible refine gd (N := 2) rfl ?_); refine bx 2 (cs := #[.slice A0_0 l0_0.length c0_0, .slice A0_1 l0_1.length c0_1]) (t := 34) ?_; intro gb178 hg w67 hbox hb; have BK178 := Aside0.mk (hbox); have GW178 := gwb HB hg; replace HB := hs HB hb; clear hb hbox hg) | ((with_reducible refine gd (N := 4) rfl ?_); refine bx 4 (cs := #[.slice none 0 0, .slice none 0 0]) (t := 34) ?_; intro gb179 hg w68 hbox hb; have BK179 := Aside0.mk (hbox); have GW179 := gwb HB hg; replace HB := hs HB hb; have NB178_179 := nq BK178 hg; have NB179_178 := nq' BK178 hg; replace BK178 := bb BK178 hb rfl; clear hb hbox hg) | ((with_reducible refine gd (N := 5) rfl ?_); refine bx 5 (cs := #[.slice none 0 0, .slice none 0 0]) (t := 34) ?_; intro gb180 hg w69 hbox hb; have BK180 := Aside0.mk (hbox); have GW180 := gwb HB hg; replace HB := hs HB hb; have NB178_180 := nq BK178 hg; have NB180_178 := nq' BK178 hg; replace BK178 := bb BK178 hb rfl; have NB179_180 := nq BK179 hg; have NB180_179 := nq' BK179 hg; replace BK179 := bb BK179 hb rfl; clear hb hbox hg; have hnb70 := NB178_179.out; have hnc70 := NB179_178.out; have hnb71 := NB178_180.out; have hnc71 := NB180_178.out; obtain ⟨hcz72_0, hcz72_1⟩ := bc2 (w := w69) BK178.out; have hfz72 := blk_frozen BK178.out) | ((with_reducible refine gc (f := 34) rfl ?_); refine gl 11 Try.func34 #[.agg #[.slice A0_0 l0_0.length c0_0, .slice A0_1 l0_1.length c0_1]] ?_; (with_reducible refine (impl_GraphOk.calls k _ _ l0_0 _ _ l0_1 false _ ?side1 ?side2 ?side3 ?side4 A3.out).mono ?_); (case side1 => exact Kd.C_below HR0_0.out (bs HB.out)); (case side2 => exact HC0_0.out); (case side3 => exact Kd.C_below HR0_1.out (bs HB.out)); (case side4 => exact HC0_1.out); rintro e w73 ⟨rfl, hb⟩; refine ⟨_, rfl, ?_⟩; replace BK178 := bb BK178 hb rfl; replace BK179 := bb BK179 hb rfl; replace BK180 := bb BK180 hb rfl; replace HB := hs HB hb; (try clear hb); have hnb74 := NB180_179.out; have hnc74 := NB179_180.out; obtain ⟨hcz75_0, hcz75_1⟩ := bc2 (w := w73) BK180.out; have hfz75 := blk_frozen BK180.out; obtain ⟨hcz76_0, hcz76_1⟩ := bc2 (w := w73) BK179.out; have hfz76 := blk_frozen BK179.out))
  refine bodyPost_ret (results_cell_row rfl _ _ gb179 34 #[.slice none 0 0, .slice none 0 0] (0, 0) _ rfl (bp BK179.out rfl) Try.underlying34 rfl (by kernel_rfl)) rfl ?_
  exact ⟨_, _, by first | rfl | (simp [*, errW_none, errW_some] <;> rfl), by first | exact Kd.R_nil _ _ _ _ _ | exact Kd.N_nil _ _ _ _ _ | exact Kd.V_nil _ _ _ _ _ | exact Kd.Q_nil _ _ _ _ _ | exact Kd.S_nil _ _ _ _ _, by first | exact Kd.R_nil _ _ _ _ _ | exact Kd.N_nil _ _ _ _ _ | exact Kd.V_nil _ _ _ _ _ | exact Kd.Q_nil _ _ _ _ _ | exact Kd.S_nil _ _ _ _ _, bs HB.out⟩

end Go.Proofs.Ytohmemckdogljaa.QFnGraphEmpty
