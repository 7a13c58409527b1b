/- Contracts of the Go functions that this law reaches: each does what its plain Lean function says. No condition. -/
import Derived.Test.YtohmemckdogljaaQFnGraphViewx0
import Derived.Test.YtohmemckdogljaaQFnGraphViewx3
namespace Go.Proofs.Ytohmemckdogljaa.QFnGraphView
open Go.RowKit Go.Proofs.YtohmemckdogljaaW.PrintWords Go.Proofs.YtohmemckdogljaaW.PrintLast Go.Proofs.YtohmemckdogljaaW.PrintMore Go.Proofs.Ytohmemckdogljaa.Bl
attribute [local go_sem] max2_int min2_int max_two min_two max_three min_three max_four min_four   -- for this text's walks alone
set_option linter.unusedVariables false
set_option linter.unusedSimpArgs false
set_option maxHeartbeats 8000000
set_option maxRecDepth 100000

/-! ### spec_GraphOk: function 33 -/
mutual
def spec_GraphOk.l0 : Nat → Int → List (S36) → List (S56) → Option (Bool)
 | 0, _, _, _ => none
 | k + 1, x3, x176000, x176001 => if x3 < (x176000.length : Int) then (if 0 ≤ x3 then ((spec_NodeOk.f ((rd_T36 x176000 x3).f0) ((rd_T36 x176000 x3).f1)).bind fun t177 => (if t177 = true then (if x3 > 0 then (if 0 ≤ (wrap64 (x3 - 1)) then (if (wrap64 (x3 - 1)) < (x176000.length : Int) then ((spec_l2Code.f ((rd_T36 x176000 (wrap64 (x3 - 1))).f0) ((rd_T36 x176000 (wrap64 (x3 - 1))).f1)).bind fun t179 => ((spec_l2Code.f ((rd_T36 x176000 x3).f0) ((rd_T36 x176000 x3).f1)).bind fun t181 => (if t179 ≥ t181 then (some false) else (if x3 ≥ 40 then (some false) else (spec_GraphOk.l0 k (wrap64 (x3 + 1)) x176000 x176001))))) else (none)) else (none)) else (if x3 ≥ 40 then (some false) else (spec_GraphOk.l0 k (wrap64 (x3 + 1)) x176000 x176001))) else (some false))) else (none)) else (spec_GraphOk.l1 k 0 x176000 x176001)
def spec_GraphOk.l1 : Nat → Int → List (S36) → List (S56) → Option (Bool)
 | 0, _, _, _ => none
 | k + 1, x4, x176000, x176001 => if x4 < (x176001.length : Int) then (if 0 ≤ x4 then ((spec_EdgeOk.f ((rd_T56 x176001 x4).f0) ((rd_T56 x176001 x4).f1.f0) ((rd_T56 x176001 x4).f1.f1) ((rd_T56 x176001 x4).f2.f0) ((rd_T56 x176001 x4).f2.f1)).bind fun t184 => (if t184 = true then (if x4 > 0 then (if 0 ≤ (wrap64 (x4 - 1)) then (if (wrap64 (x4 - 1)) < (x176001.length : Int) then ((spec_l2Less.f ((rd_T56 x176001 (wrap64 (x4 - 1))).f0) ((rd_T56 x176001 (wrap64 (x4 - 1))).f1.f0) ((rd_T56 x176001 (wrap64 (x4 - 1))).f1.f1) ((rd_T56 x176001 (wrap64 (x4 - 1))).f2.f0) ((rd_T56 x176001 (wrap64 (x4 - 1))).f2.f1) ((rd_T56 x176001 x4).f0) ((rd_T56 x176001 x4).f1.f0) ((rd_T56 x176001 x4).f1.f1) ((rd_T56 x176001 x4).f2.f0) ((rd_T56 x176001 x4).f2.f1)).bind fun t186 => (if t186 = true then ((spec_l2At.f k x176000 x176001 ((rd_T56 x176001 x4).f1.f0) ((rd_T56 x176001 x4).f1.f1)).bind fun t187 => (if t187 < 0 then (some false) else ((spec_l2At.f k x176000 x176001 ((rd_T56 x176001 x4).f2.f0) ((rd_T56 x176001 x4).f2.f1)).bind fun t188 => (if t188 < 0 then (some false) else (if x4 ≥ 56 then (some false) else (spec_GraphOk.l1 k (wrap64 (x4 + 1)) x176000 x176001)))))) else (some false))) else (none)) else (none)) else ((spec_l2At.f k x176000 x176001 ((rd_T56 x176001 x4).f1.f0) ((rd_T56 x176001 x4).f1.f1)).bind fun t189 => (if t189 < 0 then (some false) else ((spec_l2At.f k x176000 x176001 ((rd_T56 x176001 x4).f2.f0) ((rd_T56 x176001 x4).f2.f1)).bind fun t190 => (if t190 < 0 then (some false) else (if x4 ≥ 56 then (some false) else (spec_GraphOk.l1 k (wrap64 (x4 + 1)) x176000 x176001))))))) else (some false))) else (none)) else (spec_GraphOk.l2 k 0 x176000 x176001)
def spec_GraphOk.l2 : Nat → Int → List (S36) → List (S56) → Option (Bool)
 | 0, _, _, _ => none
 | k + 1, x6, x176000, x176001 => if x6 ≤ 7 then ((spec_l2Nodes.f k x176000 x176001 x6).bind fun t191 => (if t191 > 5 then (some false) else ((spec_l2Edges.f k x176000 x176001 x6).bind fun t192 => (if t192 > 7 then (some false) else (spec_GraphOk.l2 k (wrap64 (x6 + 1)) x176000 x176001))))) else (some true)
end
def spec_GraphOk.f (k : Nat) (l0_0 : List (S36)) (l0_1 : List (S56)) : Option (Bool) := spec_GraphOk.l0 k 0 l0_0 l0_1
theorem spec_GraphOk.calls (k : Nat) (A0_0 : Option Addr) (c0_0 : Nat) (l0_0 : List (S36)) (A0_1 : Option Addr) (c0_1 : Nat) (l0_1 : List (S56)) (r : Bool) (w : World) (hr0_0 : Kd.C k36 w A0_0 l0_0.length l0_0) (hc0_0 : l0_0.length ≤ c0_0) (hr0_1 : Kd.C k56 w A0_1 l0_1.length l0_1) (hc0_1 : l0_1.length ≤ c0_1) (h : spec_GraphOk.f k l0_0 l0_1 = some r) :
  Calls Try.prog 33 #[.agg #[.slice A0_0 l0_0.length c0_0, .slice A0_1 l0_1.length c0_1]] w fun e w' => e = .returned (.bool r) ∧ Below w.heap.size w w' := by
 have hu34 := Try.underlying34
 have hu36 := Try.underlying36
 have hu56 := Try.underlying56
 have HR0_0 := Aside0.mk hr0_0
 have HC0_0 := Aside0.mk hc0_0
 have HR0_1 := Aside0.mk hr0_1
 have HC0_1 := Aside0.mk hc0_1
 clear hr0_0 hc0_0 hr0_1 hc0_1
 have HB := Aside0.mk (Below.refl w.heap.size w)
 have H' := Aside0.mk (show spec_GraphOk.l0 k 0 l0_0 l0_1 = some r from h)
 clear h
 go_enter Try.func33, Try.ntmps33
 go_wp2_with (first | ((with_reducible refine gd 1 rfl ?_); refine bx 1 (cs := #[.slice A0_0 l0_0.length c0_0, .slice A0_1 l0_1.length c0_1]) (t := 34) ?_; intro gb hg w3 hbox hb; replace HB := Aside0.mk (below_step HB.out hb); have BK := Aside0.mk hbox; clear hg hb hbox))
 go_loopg [3] k (fun kq v_ w' => ∃ (x3 : Int), v_ = .int .i64 x3 ∧ Aside0 (spec_GraphOk.l0 kq x3 l0_0 l0_1 = some r) ∧ Aside0 (kq ≤ k) ∧ Aside0 (w'.heap[gb]? = some (.cells #[.slice A0_0 l0_0.length c0_0, .slice A0_1 l0_1.length c0_1] 34 (0, 0))) ∧ Aside0 (Below w.heap.size w w'))
 case atStart => exact ⟨0, eqs, H', ⟨Nat.le_refl _⟩, ⟨bf BK.out⟩, ⟨bs HB.out⟩⟩
 case round =>
  clear H'
  obtain ⟨x3, rfl, HA, HK_, BK, HB⟩ := hrel
  cases gk with
  | zero => exact absurd HA.out (by simp [spec_GraphOk.l0])
  | succ k1 =>
   have H := HA.out
   clear HA
   simp only [spec_GraphOk.l0] at H
   have hcz0 : wr.cell? ⟨gb, 0, none⟩ = some (.slice A0_0 l0_0.length c0_0) := (blk_cell BK.out 0).trans rfl
   have hcz1 : wr.cell? ⟨gb, 1, none⟩ = some (.slice A0_1 l0_1.length c0_1) := (blk_cell BK.out 1).trans rfl
   by_cases c1 : x3 < (l0_0.length : Int)
   ·rw [if_pos c1] at H
    have c1b := decide_eq_true c1
    replace c1b : decide (x3 < (l0_0.length : Int)) = true := c1b
    clear c1
    have q0 : x3 < (l0_0.length : Int) := of_decide_eq_true c1b
    by_cases p0 : 0 ≤ x3
    ·rw [if_pos p0] at H
     have CX := Aside0.mk (show 0 ≤ x3 ∧ x3 < (l0_0.length : Int) from ⟨p0, q0⟩)
     obtain ⟨ad, ea, hx0, hx1⟩ := at_T36 HR0_0.out x3 p0 q0
     cases ea
     replace hx0 := cb HB hx0
     replace hx1 := cb HB hx1
     replace p0 := eq_true p0
     replace q0 := eq_true q0
     generalize (rd_T36 l0_0 x3).f0 = f0 at H hx0 hx1
     generalize (rd_T36 l0_0 x3).f1 = f1 at H hx0 hx1
     replace H := Option.bind_eq_some_iff.mp H
     obtain ⟨t1, A10, H⟩ := H
     have A1 := Aside0.mk A10
     clear A10
     by_cases cb_ : t1 = true
     ·subst cb_
      replace H := (if_pos rfl).symm.trans H
      by_cases c0 : x3 > 0
      ·rw [if_pos c0] at H
       have c0b := decide_eq_true c0
       replace c0b : decide (0 < x3) = true := c0b
       clear c0
       have hwr : wrap64 (x3 - 1) = x3 - 1 := w64 (by have := CX.out; have := HR0_0.out.2.1; omega)
       have hpos : 0 < x3 := of_decide_eq_true c0b
       rw [hwr] at H
       rw [if_pos (show 0 ≤ x3 - 1 by omega), if_pos (show x3 - 1 < (l0_0.length : Int) by have := CX.out; omega)] at H
       obtain ⟨q, hq⟩ : ∃ q, x3 - 1 = q := ⟨_, rfl⟩
       have hqw : wrap64 (x3 - 1) = q := hwr.trans hq
       rw [hq] at H
       have p1 : 0 ≤ q := by omega
       have q1 : q < (l0_0.length : Int) := by have := CX.out; omega
       obtain ⟨ad', ea', hy0, hy1⟩ := at_T36 HR0_0.out q p1 q1
       obtain rfl : ad = ad' := by injection ea'
       clear ea' hwr hpos
       replace hq := Aside0.mk hq
       replace hy0 := cb HB hy0
       replace hy1 := cb HB hy1
       replace p1 := eq_true p1
       replace q1 := eq_true q1
       generalize (rd_T36 l0_0 q).f0 = d0 at H hy0 hy1
       generalize (rd_T36 l0_0 q).f1 = d1 at H hy0 hy1
       replace H := Option.bind_eq_some_iff.mp H
       obtain ⟨t2, A20, H⟩ := H
       have A2 := Aside0.mk A20
       clear A20
       replace H := Option.bind_eq_some_iff.mp H
       obtain ⟨t3, A30, H⟩ := H
       have A3 := Aside0.mk A30
       clear A30
       by_cases c3 : t2 ≥ t3
       ·rw [if_pos c3] at H
        have c3b := decide_eq_true c3
        replace c3b : decide (t3 ≤ t2) = true := c3b
        clear c3
        obtain rfl := Option.some.inj H
        go_wp2
        replace BK := bd BK
        replace HB := hd HB
        have hd0 : wr.drew.cell? (ad.add (x3.toNat * 2)) = some (.int .i64 f0) := hx0
        have hd1 : wr.drew.cell? ⟨(ad.add (x3.toNat * 2)).block, (ad.add (x3.toNat * 2)).off + 1, none⟩ = some (.int .i64 f1) := hx1
        have hd2 : wr.drew.cell? (ad.add (q.toNat * 2)) = some (.int .i64 d0) := hy0
        have hd3 : wr.drew.cell? ⟨(ad.add (q.toNat * 2)).block, (ad.add (q.toNat * 2)).off + 1, none⟩ = some (.int .i64 d1) := hy1
        refine wp_region_bel (by kernel_rfl) (by kernel_rfl) ?_
        generalize wr.drew = w8 at BK HB hd0 hd1 hd2 hd3 ⊢
        have hbp := fun (p : Bel w8) => below_step HB.out p.h
        have hz0 : ∀ p : Bel w8, p.v.cell? ⟨gb, 0, none⟩ = some (.slice (some ad) l0_0.length c0_0) := fun p => cell_bel ((blk_cell BK.out 0).trans rfl) p
        have hz1 : ∀ p : Bel w8, p.v.cell? ⟨gb, 1, none⟩ = some (.slice A0_1 l0_1.length c0_1) := fun p => cell_bel ((blk_cell BK.out 1).trans rfl) p
        have hz2 : ∀ p : Bel w8, p.v.cell? (ad.add (x3.toNat * 2)) = some (.int .i64 f0) := fun p => cell_bel (hd0) p
        have hz3 : ∀ p : Bel w8, p.v.cell? ⟨(ad.add (x3.toNat * 2)).block, (ad.add (x3.toNat * 2)).off + 1, none⟩ = some (.int .i64 f1) := fun p => cell_bel (hd1) p
        have hz4 : ∀ p : Bel w8, p.v.cell? (ad.add (q.toNat * 2)) = some (.int .i64 d0) := fun p => cell_bel (hd2) p
        have hz5 : ∀ p : Bel w8, p.v.cell? ⟨(ad.add (q.toNat * 2)).block, (ad.add (q.toNat * 2)).off + 1, none⟩ = some (.int .i64 d1) := fun p => cell_bel (hd3) p
        repeat (go_big_quiet_step (first
         | (with_reducible show Calls Try.prog 75 #[.agg #[.int .i64 f0, .int .i64 f1]] _ _; with_reducible exact calls_bel (spec_NodeOk.calls f0 f1 true _ A1.out))
         | (with_reducible show Calls Try.prog 76 #[.agg #[.int .i64 d0, .int .i64 d1]] _ _; with_reducible exact calls_bel (spec_l2Code.calls d0 d1 t2 _ A2.out))
         | (with_reducible show Calls Try.prog 76 #[.agg #[.int .i64 f0, .int .i64 f1]] _ _; with_reducible exact calls_bel (spec_l2Code.calls f0 f1 t3 _ A3.out))))
        refine wpQuiet_nil ?_
        intro w9 hw'
        obtain ⟨⟨wq_, hb⟩, hw''⟩ := hw'
        subst hw''
        clear hbp hz0 hz1 hz2 hz3 hz4 hz5 hd0 hd1 hd2 hd3
        replace BK := bb BK hb rfl
        replace HB := hs HB hb
        clear hb
        go_wp2
        go_ret
        exact ⟨eqs, bs HB.out⟩
       ·rw [if_neg c3] at H
        have c3b : decide (t3 ≤ t2) = false := decide_eq_false c3
        clear c3
        by_cases c40 : x3 ≥ 40
        ·rw [if_pos c40] at H
         have c40b := decide_eq_true c40
         replace c40b : decide (40 ≤ x3) = true := c40b
         clear c40
         obtain rfl := Option.some.inj H
         go_wp2
         replace BK := bd BK
         replace HB := hd HB
         have hd0 : wr.drew.cell? (ad.add (x3.toNat * 2)) = some (.int .i64 f0) := hx0
         have hd1 : wr.drew.cell? ⟨(ad.add (x3.toNat * 2)).block, (ad.add (x3.toNat * 2)).off + 1, none⟩ = some (.int .i64 f1) := hx1
         have hd2 : wr.drew.cell? (ad.add (q.toNat * 2)) = some (.int .i64 d0) := hy0
         have hd3 : wr.drew.cell? ⟨(ad.add (q.toNat * 2)).block, (ad.add (q.toNat * 2)).off + 1, none⟩ = some (.int .i64 d1) := hy1
         refine wp_region_bel (by kernel_rfl) (by kernel_rfl) ?_
         generalize wr.drew = w8 at BK HB hd0 hd1 hd2 hd3 ⊢
         have hbp := fun (p : Bel w8) => below_step HB.out p.h
         have hz0 : ∀ p : Bel w8, p.v.cell? ⟨gb, 0, none⟩ = some (.slice (some ad) l0_0.length c0_0) := fun p => cell_bel ((blk_cell BK.out 0).trans rfl) p
         have hz1 : ∀ p : Bel w8, p.v.cell? ⟨gb, 1, none⟩ = some (.slice A0_1 l0_1.length c0_1) := fun p => cell_bel ((blk_cell BK.out 1).trans rfl) p
         have hz2 : ∀ p : Bel w8, p.v.cell? (ad.add (x3.toNat * 2)) = some (.int .i64 f0) := fun p => cell_bel (hd0) p
         have hz3 : ∀ p : Bel w8, p.v.cell? ⟨(ad.add (x3.toNat * 2)).block, (ad.add (x3.toNat * 2)).off + 1, none⟩ = some (.int .i64 f1) := fun p => cell_bel (hd1) p
         have hz4 : ∀ p : Bel w8, p.v.cell? (ad.add (q.toNat * 2)) = some (.int .i64 d0) := fun p => cell_bel (hd2) p
         have hz5 : ∀ p : Bel w8, p.v.cell? ⟨(ad.add (q.toNat * 2)).block, (ad.add (q.toNat * 2)).off + 1, none⟩ = some (.int .i64 d1) := fun p => cell_bel (hd3) p
         repeat (go_big_quiet_step (first
          | (with_reducible show Calls Try.prog 75 #[.agg #[.int .i64 f0, .int .i64 f1]] _ _; with_reducible exact calls_bel (spec_NodeOk.calls f0 f1 true _ A1.out))
          | (with_reducible show Calls Try.prog 76 #[.agg #[.int .i64 d0, .int .i64 d1]] _ _; with_reducible exact calls_bel (spec_l2Code.calls d0 d1 t2 _ A2.out))
          | (with_reducible show Calls Try.prog 76 #[.agg #[.int .i64 f0, .int .i64 f1]] _ _; with_reducible exact calls_bel (spec_l2Code.calls f0 f1 t3 _ A3.out))))
         refine wpQuiet_nil ?_
         intro w9 hw'
         obtain ⟨⟨wq_, hb⟩, hw''⟩ := hw'
         subst hw''
         clear hbp hz0 hz1 hz2 hz3 hz4 hz5 hd0 hd1 hd2 hd3
         replace BK := bb BK hb rfl
         replace HB := hs HB hb
         clear hb
         go_wp2
         go_ret
         exact ⟨eqs, bs HB.out⟩
        ·rw [if_neg c40] at H
         have c40b : decide (40 ≤ x3) = false := decide_eq_false c40
         clear c40
         have H' := Aside0.mk H
         clear H
         go_wp2
         replace BK := bd BK
         replace HB := hd HB
         have hd0 : wr.drew.cell? (ad.add (x3.toNat * 2)) = some (.int .i64 f0) := hx0
         have hd1 : wr.drew.cell? ⟨(ad.add (x3.toNat * 2)).block, (ad.add (x3.toNat * 2)).off + 1, none⟩ = some (.int .i64 f1) := hx1
         have hd2 : wr.drew.cell? (ad.add (q.toNat * 2)) = some (.int .i64 d0) := hy0
         have hd3 : wr.drew.cell? ⟨(ad.add (q.toNat * 2)).block, (ad.add (q.toNat * 2)).off + 1, none⟩ = some (.int .i64 d1) := hy1
         refine wp_region_bel (by kernel_rfl) (by kernel_rfl) ?_
         generalize wr.drew = w8 at BK HB hd0 hd1 hd2 hd3 ⊢
         have hbp := fun (p : Bel w8) => below_step HB.out p.h
         have hz0 : ∀ p : Bel w8, p.v.cell? ⟨gb, 0, none⟩ = some (.slice (some ad) l0_0.length c0_0) := fun p => cell_bel ((blk_cell BK.out 0).trans rfl) p
         have hz1 : ∀ p : Bel w8, p.v.cell? ⟨gb, 1, none⟩ = some (.slice A0_1 l0_1.length c0_1) := fun p => cell_bel ((blk_cell BK.out 1).trans rfl) p
         have hz2 : ∀ p : Bel w8, p.v.cell? (ad.add (x3.toNat * 2)) = some (.int .i64 f0) := fun p => cell_bel (hd0) p
         have hz3 : ∀ p : Bel w8, p.v.cell? ⟨(ad.add (x3.toNat * 2)).block, (ad.add (x3.toNat * 2)).off + 1, none⟩ = some (.int .i64 f1) := fun p => cell_bel (hd1) p
         have hz4 : ∀ p : Bel w8, p.v.cell? (ad.add (q.toNat * 2)) = some (.int .i64 d0) := fun p => cell_bel (hd2) p
         have hz5 : ∀ p : Bel w8, p.v.cell? ⟨(ad.add (q.toNat * 2)).block, (ad.add (q.toNat * 2)).off + 1, none⟩ = some (.int .i64 d1) := fun p => cell_bel (hd3) p
         repeat (go_big_quiet_step (first
          | (with_reducible show Calls Try.prog 75 #[.agg #[.int .i64 f0, .int .i64 f1]] _ _; with_reducible exact calls_bel (spec_NodeOk.calls f0 f1 true _ A1.out))
          | (with_reducible show Calls Try.prog 76 #[.agg #[.int .i64 d0, .int .i64 d1]] _ _; with_reducible exact calls_bel (spec_l2Code.calls d0 d1 t2 _ A2.out))
          | (with_reducible show Calls Try.prog 76 #[.agg #[.int .i64 f0, .int .i64 f1]] _ _; with_reducible exact calls_bel (spec_l2Code.calls f0 f1 t3 _ A3.out))))
         refine wpQuiet_nil ?_
         intro w9 hw'
         obtain ⟨⟨wq_, hb⟩, hw''⟩ := hw'
         subst hw''
         clear hbp hz0 hz1 hz2 hz3 hz4 hz5 hd0 hd1 hd2 hd3
         replace BK := bb BK hb rfl
         replace HB := hs HB hb
         clear hb
         go_wp2
         go_roundg k1
         case measure => have := HK_.out; omega
         case rel => exact ⟨wrap64 (x3 + 1), eqs, H', ⟨by have := HK_.out; omega⟩, ⟨bf BK.out⟩, ⟨bs HB.out⟩⟩
      ·rw [if_neg c0] at H
       have c0b : decide (0 < x3) = false := decide_eq_false c0
       clear c0
       by_cases c40 : x3 ≥ 40
       ·rw [if_pos c40] at H
        have c40b := decide_eq_true c40
        replace c40b : decide (40 ≤ x3) = true := c40b
        clear c40
        obtain rfl := Option.some.inj H
        go_wp2
        replace BK := bd BK
        replace HB := hd HB
        have hd0 : wr.drew.cell? (ad.add (x3.toNat * 2)) = some (.int .i64 f0) := hx0
        have hd1 : wr.drew.cell? ⟨(ad.add (x3.toNat * 2)).block, (ad.add (x3.toNat * 2)).off + 1, none⟩ = some (.int .i64 f1) := hx1
        refine wp_region_bel (by kernel_rfl) (by kernel_rfl) ?_
        generalize wr.drew = w8 at BK HB hd0 hd1 ⊢
        have hbp := fun (p : Bel w8) => below_step HB.out p.h
        have hz0 : ∀ p : Bel w8, p.v.cell? ⟨gb, 0, none⟩ = some (.slice (some ad) l0_0.length c0_0) := fun p => cell_bel ((blk_cell BK.out 0).trans rfl) p
        have hz1 : ∀ p : Bel w8, p.v.cell? ⟨gb, 1, none⟩ = some (.slice A0_1 l0_1.length c0_1) := fun p => cell_bel ((blk_cell BK.out 1).trans rfl) p
        have hz2 : ∀ p : Bel w8, p.v.cell? (ad.add (x3.toNat * 2)) = some (.int .i64 f0) := fun p => cell_bel (hd0) p
        have hz3 : ∀ p : Bel w8, p.v.cell? ⟨(ad.add (x3.toNat * 2)).block, (ad.add (x3.toNat * 2)).off + 1, none⟩ = some (.int .i64 f1) := fun p => cell_bel (hd1) p
        repeat (go_big_quiet_step (first
         | (with_reducible show Calls Try.prog 75 #[.agg #[.int .i64 f0, .int .i64 f1]] _ _; with_reducible exact calls_bel (spec_NodeOk.calls f0 f1 true _ A1.out))))
        refine wpQuiet_nil ?_
        intro w9 hw'
        obtain ⟨⟨wq_, hb⟩, hw''⟩ := hw'
        subst hw''
        clear hbp hz0 hz1 hz2 hz3 hd0 hd1
        replace BK := bb BK hb rfl
        replace HB := hs HB hb
        clear hb
        go_wp2
        go_ret
        exact ⟨eqs, bs HB.out⟩
       ·rw [if_neg c40] at H
        have c40b : decide (40 ≤ x3) = false := decide_eq_false c40
        clear c40
        have H' := Aside0.mk H
        clear H
        go_wp2
        replace BK := bd BK
        replace HB := hd HB
        have hd0 : wr.drew.cell? (ad.add (x3.toNat * 2)) = some (.int .i64 f0) := hx0
        have hd1 : wr.drew.cell? ⟨(ad.add (x3.toNat * 2)).block, (ad.add (x3.toNat * 2)).off + 1, none⟩ = some (.int .i64 f1) := hx1
        refine wp_region_bel (by kernel_rfl) (by kernel_rfl) ?_
        generalize wr.drew = w8 at BK HB hd0 hd1 ⊢
        have hbp := fun (p : Bel w8) => below_step HB.out p.h
        have hz0 : ∀ p : Bel w8, p.v.cell? ⟨gb, 0, none⟩ = some (.slice (some ad) l0_0.length c0_0) := fun p => cell_bel ((blk_cell BK.out 0).trans rfl) p
        have hz1 : ∀ p : Bel w8, p.v.cell? ⟨gb, 1, none⟩ = some (.slice A0_1 l0_1.length c0_1) := fun p => cell_bel ((blk_cell BK.out 1).trans rfl) p
        have hz2 : ∀ p : Bel w8, p.v.cell? (ad.add (x3.toNat * 2)) = some (.int .i64 f0) := fun p => cell_bel (hd0) p
        have hz3 : ∀ p : Bel w8, p.v.cell? ⟨(ad.add (x3.toNat * 2)).block, (ad.add (x3.toNat * 2)).off + 1, none⟩ = some (.int .i64 f1) := fun p => cell_bel (hd1) p
        repeat (go_big_quiet_step (first
         | (with_reducible show Calls Try.prog 75 #[.agg #[.int .i64 f0, .int .i64 f1]] _ _; with_reducible exact calls_bel (spec_NodeOk.calls f0 f1 true _ A1.out))))
        refine wpQuiet_nil ?_
        intro w9 hw'
        obtain ⟨⟨wq_, hb⟩, hw''⟩ := hw'
        subst hw''
        clear hbp hz0 hz1 hz2 hz3 hd0 hd1
        replace BK := bb BK hb rfl
        replace HB := hs HB hb
        clear hb
        go_wp2
        go_roundg k1
        case measure => have := HK_.out; omega
        case rel => exact ⟨wrap64 (x3 + 1), eqs, H', ⟨by have := HK_.out; omega⟩, ⟨bf BK.out⟩, ⟨bs HB.out⟩⟩
     ·replace cb_ := Bool.eq_false_iff.mpr cb_
      subst cb_
      replace H := (if_neg (show ¬ (false = true) by decide)).symm.trans H
      obtain rfl := Option.some.inj H
      go_wp2
      replace BK := bd BK
      replace HB := hd HB
      have hd0 : wr.drew.cell? (ad.add (x3.toNat * 2)) = some (.int .i64 f0) := hx0
      have hd1 : wr.drew.cell? ⟨(ad.add (x3.toNat * 2)).block, (ad.add (x3.toNat * 2)).off + 1, none⟩ = some (.int .i64 f1) := hx1
      refine wp_region_bel (by kernel_rfl) (by kernel_rfl) ?_
      generalize wr.drew = w8 at BK HB hd0 hd1 ⊢
      have hbp := fun (p : Bel w8) => below_step HB.out p.h
      have hz0 : ∀ p : Bel w8, p.v.cell? ⟨gb, 0, none⟩ = some (.slice (some ad) l0_0.length c0_0) := fun p => cell_bel ((blk_cell BK.out 0).trans rfl) p
      have hz1 : ∀ p : Bel w8, p.v.cell? ⟨gb, 1, none⟩ = some (.slice A0_1 l0_1.length c0_1) := fun p => cell_bel ((blk_cell BK.out 1).trans rfl) p
      have hz2 : ∀ p : Bel w8, p.v.cell? (ad.add (x3.toNat * 2)) = some (.int .i64 f0) := fun p => cell_bel (hd0) p
      have hz3 : ∀ p : Bel w8, p.v.cell? ⟨(ad.add (x3.toNat * 2)).block, (ad.add (x3.toNat * 2)).off + 1, none⟩ = some (.int .i64 f1) := fun p => cell_bel (hd1) p
      repeat (go_big_quiet_step (first
       | (with_reducible show Calls Try.prog 75 #[.agg #[.int .i64 f0, .int .i64 f1]] _ _; with_reducible exact calls_bel (spec_NodeOk.calls f0 f1 false _ A1.out))))
      refine wpQuiet_nil ?_
      intro w9 hw'
      obtain ⟨⟨wq_, hb⟩, hw''⟩ := hw'
      subst hw''
      clear hbp hz0 hz1 hz2 hz3 hd0 hd1
      replace BK := bb BK hb rfl
      replace HB := hs HB hb
      clear hb
      go_wp2
      go_ret
      exact ⟨eqs, bs HB.out⟩
    ·rw [if_neg p0] at H; cases H
   ·rw [if_neg c1] at H
    have c1b : decide (x3 < (l0_0.length : Int)) = false := decide_eq_false c1
    clear c1
    have H' := Aside0.mk H
    clear H
    go_wp2
    go_loopg [4] k1 (fun kq v_ w' => ∃ (x4 : Int), v_ = .int .i64 x4 ∧ Aside0 (spec_GraphOk.l1 kq x4 l0_0 l0_1 = some r) ∧ Aside0 (kq ≤ k1) ∧ Aside0 (w'.heap[gb]? = some (.cells #[.slice A0_0 l0_0.length c0_0, .slice A0_1 l0_1.length c0_1] 34 (0, 0))) ∧ Aside0 (Below w.heap.size w w'))
    case atStart => exact ⟨0, eqs, H', ⟨Nat.le_refl _⟩, ⟨bf BK.out⟩, ⟨bs HB.out⟩⟩
    case round =>
     clear H'
     obtain ⟨x4, rfl, HA, HK_, BK, HB⟩ := hrel
     cases gk with
     | zero => exact absurd HA.out (by simp [spec_GraphOk.l1])
     | succ k2 =>
      have H := HA.out
      clear HA
      simp only [spec_GraphOk.l1] at H
      have hcz0 : wr.cell? ⟨gb, 0, none⟩ = some (.slice A0_0 l0_0.length c0_0) := (blk_cell BK.out 0).trans rfl
      have hcz1 : wr.cell? ⟨gb, 1, none⟩ = some (.slice A0_1 l0_1.length c0_1) := (blk_cell BK.out 1).trans rfl
      by_cases c1 : x4 < (l0_1.length : Int)
      ·rw [if_pos c1] at H
       have c1b := decide_eq_true c1
       replace c1b : decide (x4 < (l0_1.length : Int)) = true := c1b
       clear c1
       have q0 : x4 < (l0_1.length : Int) := of_decide_eq_true c1b
       by_cases p0 : 0 ≤ x4
       ·rw [if_pos p0] at H
        have CX := Aside0.mk (show 0 ≤ x4 ∧ x4 < (l0_1.length : Int) from ⟨p0, q0⟩)
        obtain ⟨ad, ea, hx0, hx1, hx2, hx3, hx4⟩ := at_T56 HR0_1.out x4 p0 q0
        cases ea
        replace hx0 := cb HB hx0
        replace hx1 := cb HB hx1
        replace hx2 := cb HB hx2
        replace hx3 := cb HB hx3
        replace hx4 := cb HB hx4
        replace p0 := eq_true p0
        replace q0 := eq_true q0
        generalize (rd_T56 l0_1 x4).f0 = e0 at H hx0 hx1 hx2 hx3 hx4
        generalize (rd_T56 l0_1 x4).f1.f0 = e1 at H hx0 hx1 hx2 hx3 hx4
        generalize (rd_T56 l0_1 x4).f1.f1 = e2 at H hx0 hx1 hx2 hx3 hx4
        generalize (rd_T56 l0_1 x4).f2.f0 = e3 at H hx0 hx1 hx2 hx3 hx4
        generalize (rd_T56 l0_1 x4).f2.f1 = e4 at H hx0 hx1 hx2 hx3 hx4
        go_wp2_with (first | ((with_reducible refine gd 5 rfl ?_); refine bx 5 (cs := #[.int .i64 0, .int .i64 0, .int .i64 0, .int .i64 0, .int .i64 0]) (t := 56) ?_; intro gn hg w5 hbox hb; have BN := Aside0.mk hbox; have GN := Aside0.mk (geD HB.out hg rfl); replace HB := hs HB hb; have NE := Aside0.mk (neD BK.out hg rfl); replace BK := bb BK hb rfl; clear hb hbox hg; have hca0 : w5.cell? ⟨gn, 0, none⟩ = some (.int .i64 0) := (blk_cell BN.out 0).trans rfl; have hca1 : w5.cell? ⟨gn, 1, none⟩ = some (.int .i64 0) := (blk_cell BN.out 1).trans rfl; have hca2 : w5.cell? ⟨gn, 2, none⟩ = some (.int .i64 0) := (blk_cell BN.out 2).trans rfl; have hca3 : w5.cell? ⟨gn, 3, none⟩ = some (.int .i64 0) := (blk_cell BN.out 3).trans rfl; have hca4 : w5.cell? ⟨gn, 4, none⟩ = some (.int .i64 0) := (blk_cell BN.out 4).trans rfl; have hfa0 := blk_frozen BN.out 0; have hfa1 := blk_frozen BN.out 1; have hfa2 := blk_frozen BN.out 2; have hfa3 := blk_frozen BN.out 3; have hfa4 := blk_frozen BN.out 4))
        have n0_ := Aside0.mk (blk_far (blk_far (blk_far (blk_far (blk_far (BK.out) (p := ⟨gn, 0, none⟩) NE.out (.int .i64 e0)) (p := ⟨gn, 1, none⟩) NE.out (.int .i64 e1)) (p := ⟨gn, 2, none⟩) NE.out (.int .i64 e2)) (p := ⟨gn, 3, none⟩) NE.out (.int .i64 e3)) (p := ⟨gn, 4, none⟩) NE.out (.int .i64 e4))
        have n1_ := Aside0.mk (blk_put (cs' := #[.int .i64 e0, .int .i64 e1, .int .i64 e2, .int .i64 e3, .int .i64 e4]) (blk_put (cs' := #[.int .i64 e0, .int .i64 e1, .int .i64 e2, .int .i64 e3, .int .i64 0]) (blk_put (cs' := #[.int .i64 e0, .int .i64 e1, .int .i64 e2, .int .i64 0, .int .i64 0]) (blk_put (cs' := #[.int .i64 e0, .int .i64 e1, .int .i64 0, .int .i64 0, .int .i64 0]) (blk_put (cs' := #[.int .i64 e0, .int .i64 0, .int .i64 0, .int .i64 0, .int .i64 0]) (BN.out) 0 (.int .i64 e0) rfl) 1 (.int .i64 e1) rfl) 2 (.int .i64 e2) rfl) 3 (.int .i64 e3) rfl) 4 (.int .i64 e4) rfl)
        have n2_ := Aside0.mk (below_set (j := 4) (v := .int .i64 e4) (below_set (j := 3) (v := .int .i64 e3) (below_set (j := 2) (v := .int .i64 e2) (below_set (j := 1) (v := .int .i64 e1) (below_set (j := 0) (v := .int .i64 e0) (HB.out) GN.out) GN.out) GN.out) GN.out) GN.out)
        clear BK BN HB hca0 hfa0 hca1 hfa1 hca2 hfa2 hca3 hfa3 hca4 hfa4
        have BK := n0_
        have BN := n1_
        have HB := n2_
        clear n0_ n1_ n2_
        generalize (((((w5).setCell ⟨gn, 0, none⟩ (.int .i64 e0)).setCell ⟨gn, 1, none⟩ (.int .i64 e1)).setCell ⟨gn, 2, none⟩ (.int .i64 e2)).setCell ⟨gn, 3, none⟩ (.int .i64 e3)).setCell ⟨gn, 4, none⟩ (.int .i64 e4) = w6 at BK BN HB ⊢
        clear hcz0 hcz1 hx0 hx1 hx2 hx3 hx4
        replace H := Option.bind_eq_some_iff.mp H
        obtain ⟨t1, A10, H⟩ := H
        have A1 := Aside0.mk A10
        clear A10
        by_cases cb_ : t1 = true
        ·subst cb_
         replace H := (if_pos rfl).symm.trans H
         by_cases c0 : x4 > 0
         ·rw [if_pos c0] at H
          have c0b := decide_eq_true c0
          replace c0b : decide (0 < x4) = true := c0b
          clear c0
          have hwr : wrap64 (x4 - 1) = x4 - 1 := w64 (by have := CX.out; have := HR0_1.out.2.1; omega)
          have hpos : 0 < x4 := of_decide_eq_true c0b
          rw [hwr] at H
          rw [if_pos (show 0 ≤ x4 - 1 by omega), if_pos (show x4 - 1 < (l0_1.length : Int) by have := CX.out; omega)] at H
          obtain ⟨q, hq⟩ : ∃ q, x4 - 1 = q := ⟨_, rfl⟩
          have hqw : wrap64 (x4 - 1) = q := hwr.trans hq
          rw [hq] at H
          have p1 : 0 ≤ q := by omega
          have q1 : q < (l0_1.length : Int) := by have := CX.out; omega
          obtain ⟨ad', ea', hy0, hy1, hy2, hy3, hy4⟩ := at_T56 HR0_1.out q p1 q1
          obtain rfl : ad = ad' := by injection ea'
          clear ea' hwr hpos
          replace hq := Aside0.mk hq
          replace hy0 := cb HB hy0
          replace hy1 := cb HB hy1
          replace hy2 := cb HB hy2
          replace hy3 := cb HB hy3
          replace hy4 := cb HB hy4
          replace p1 := eq_true p1
          replace q1 := eq_true q1
          generalize (rd_T56 l0_1 q).f0 = d0 at H hy0 hy1 hy2 hy3 hy4
          generalize (rd_T56 l0_1 q).f1.f0 = d1 at H hy0 hy1 hy2 hy3 hy4
          generalize (rd_T56 l0_1 q).f1.f1 = d2 at H hy0 hy1 hy2 hy3 hy4
          generalize (rd_T56 l0_1 q).f2.f0 = d3 at H hy0 hy1 hy2 hy3 hy4
          generalize (rd_T56 l0_1 q).f2.f1 = d4 at H hy0 hy1 hy2 hy3 hy4
          replace H := Option.bind_eq_some_iff.mp H
          obtain ⟨t2, A20, H⟩ := H
          have A2 := Aside0.mk A20
          clear A20
          by_cases cb_ : t2 = true
          ·subst cb_
           replace H := (if_pos rfl).symm.trans H
           replace H := Option.bind_eq_some_iff.mp H
           obtain ⟨t3, A30, H⟩ := H
           have A3 := Aside0.mk A30
           clear A30
           by_cases c3 : t3 < 0
           ·rw [if_pos c3] at H
            have c3b := decide_eq_true c3
            replace c3b : decide (t3 < 0) = true := c3b
            clear c3
            obtain rfl := Option.some.inj H
            go_wp2
            replace BK := bd BK
            replace BN := Aside0.mk (blk_drew BN.out)
            replace HB := hd HB
            have hd0 : w6.drew.cell? (ad.add (q.toNat * 5)) = some (.int .i64 d0) := hy0
            have hd1 : w6.drew.cell? ⟨(ad.add (q.toNat * 5)).block, (ad.add (q.toNat * 5)).off + 1, none⟩ = some (.int .i64 d1) := hy1
            have hd2 : w6.drew.cell? ⟨(ad.add (q.toNat * 5)).block, (ad.add (q.toNat * 5)).off + 2, none⟩ = some (.int .i64 d2) := hy2
            have hd3 : w6.drew.cell? ⟨(ad.add (q.toNat * 5)).block, (ad.add (q.toNat * 5)).off + 3, none⟩ = some (.int .i64 d3) := hy3
            have hd4 : w6.drew.cell? ⟨(ad.add (q.toNat * 5)).block, (ad.add (q.toNat * 5)).off + 4, none⟩ = some (.int .i64 d4) := hy4
            refine wp_region_bel (by kernel_rfl) (by kernel_rfl) ?_
            generalize w6.drew = w8 at BK BN HB hd0 hd1 hd2 hd3 hd4 ⊢
            have hbp := fun (p : Bel w8) => below_step HB.out p.h
            have hz0 : ∀ p : Bel w8, p.v.cell? ⟨gb, 0, none⟩ = some (.slice A0_0 l0_0.length c0_0) := fun p => cell_bel ((blk_cell BK.out 0).trans rfl) p
            have hz1 : ∀ p : Bel w8, p.v.cell? ⟨gb, 1, none⟩ = some (.slice (some ad) l0_1.length c0_1) := fun p => cell_bel ((blk_cell BK.out 1).trans rfl) p
            have hz2 : ∀ p : Bel w8, p.v.cell? ⟨gn, 0, none⟩ = some (.int .i64 e0) := fun p => cell_bel ((blk_cell BN.out 0).trans rfl) p
            have hz3 : ∀ p : Bel w8, p.v.cell? ⟨gn, 1, none⟩ = some (.int .i64 e1) := fun p => cell_bel ((blk_cell BN.out 1).trans rfl) p
            have hz4 : ∀ p : Bel w8, p.v.cell? ⟨gn, 2, none⟩ = some (.int .i64 e2) := fun p => cell_bel ((blk_cell BN.out 2).trans rfl) p
            have hz5 : ∀ p : Bel w8, p.v.cell? ⟨gn, 3, none⟩ = some (.int .i64 e3) := fun p => cell_bel ((blk_cell BN.out 3).trans rfl) p
            have hz6 : ∀ p : Bel w8, p.v.cell? ⟨gn, 4, none⟩ = some (.int .i64 e4) := fun p => cell_bel ((blk_cell BN.out 4).trans rfl) p
            have hz7 : ∀ p : Bel w8, p.v.cell? (ad.add (q.toNat * 5)) = some (.int .i64 d0) := fun p => cell_bel (hd0) p
            have hz8 : ∀ p : Bel w8, p.v.cell? ⟨(ad.add (q.toNat * 5)).block, (ad.add (q.toNat * 5)).off + 1, none⟩ = some (.int .i64 d1) := fun p => cell_bel (hd1) p
            have hz9 : ∀ p : Bel w8, p.v.cell? ⟨(ad.add (q.toNat * 5)).block, (ad.add (q.toNat * 5)).off + 2, none⟩ = some (.int .i64 d2) := fun p => cell_bel (hd2) p
            have hz10 : ∀ p : Bel w8, p.v.cell? ⟨(ad.add (q.toNat * 5)).block, (ad.add (q.toNat * 5)).off + 3, none⟩ = some (.int .i64 d3) := fun p => cell_bel (hd3) p
            have hz11 : ∀ p : Bel w8, p.v.cell? ⟨(ad.add (q.toNat * 5)).block, (ad.add (q.toNat * 5)).off + 4, none⟩ = some (.int .i64 d4) := fun p => cell_bel (hd4) p
            repeat (go_big_quiet_step (first
             | (with_reducible show Calls Try.prog 77 #[.agg #[.int .i64 e0, .int .i64 e1, .int .i64 e2, .int .i64 e3, .int .i64 e4]] _ _; with_reducible exact calls_bel (spec_EdgeOk.calls e0 e1 e2 e3 e4 true _ A1.out))
             | (with_reducible show Calls Try.prog 78 #[.agg #[.int .i64 d0, .int .i64 d1, .int .i64 d2, .int .i64 d3, .int .i64 d4], .agg #[.int .i64 e0, .int .i64 e1, .int .i64 e2, .int .i64 e3, .int .i64 e4]] _ _; with_reducible exact calls_bel (spec_l2Less.calls d0 d1 d2 d3 d4 e0 e1 e2 e3 e4 true _ A2.out))
             | (with_reducible show Calls Try.prog 62 #[.agg #[.slice A0_0 l0_0.length c0_0, .slice (some ad) l0_1.length c0_1], .agg #[.int .i64 e1, .int .i64 e2]] _ _; with_reducible refine calls_bel (spec_l2At.calls k2 _ _ l0_0 _ _ l0_1 e1 e2 t3 _ ?s1 ?s2 ?s3 ?s4 A3.out); (case s1 => exact Kd.C_below HR0_0.out (hbp _)); (case s2 => exact HC0_0.out); (case s3 => exact Kd.C_below HR0_1.out (hbp _)); (case s4 => exact HC0_1.out))))
            refine wpQuiet_nil ?_
            intro w9 hw'
            obtain ⟨⟨wq_, hb⟩, hw''⟩ := hw'
            subst hw''
            clear hbp hz0 hz1 hz2 hz3 hz4 hz5 hz6 hz7 hz8 hz9 hz10 hz11 hd0 hd1 hd2 hd3 hd4
            replace BK := bb BK hb rfl
            replace BN := Aside0.mk (blk_belowD BN.out hb rfl)
            replace HB := hs HB hb
            clear hb
            go_wp2
            go_ret
            exact ⟨eqs, bs HB.out⟩
           ·rw [if_neg c3] at H
            have c3b : decide (t3 < 0) = false := decide_eq_false c3
            clear c3
            replace H := Option.bind_eq_some_iff.mp H
            obtain ⟨t4, A40, H⟩ := H
            have A4 := Aside0.mk A40
            clear A40
            by_cases c4 : t4 < 0
            ·rw [if_pos c4] at H
             have c4b := decide_eq_true c4
             replace c4b : decide (t4 < 0) = true := c4b
             clear c4
             obtain rfl := Option.some.inj H
             go_wp2
             replace BK := bd BK
             replace BN := Aside0.mk (blk_drew BN.out)
             replace HB := hd HB
             have hd0 : w6.drew.cell? (ad.add (q.toNat * 5)) = some (.int .i64 d0) := hy0
             have hd1 : w6.drew.cell? ⟨(ad.add (q.toNat * 5)).block, (ad.add (q.toNat * 5)).off + 1, none⟩ = some (.int .i64 d1) := hy1
             have hd2 : w6.drew.cell? ⟨(ad.add (q.toNat * 5)).block, (ad.add (q.toNat * 5)).off + 2, none⟩ = some (.int .i64 d2) := hy2
             have hd3 : w6.drew.cell? ⟨(ad.add (q.toNat * 5)).block, (ad.add (q.toNat * 5)).off + 3, none⟩ = some (.int .i64 d3) := hy3
             have hd4 : w6.drew.cell? ⟨(ad.add (q.toNat * 5)).block, (ad.add (q.toNat * 5)).off + 4, none⟩ = some (.int .i64 d4) := hy4
             refine wp_region_bel (by kernel_rfl) (by kernel_rfl) ?_
             generalize w6.drew = w8 at BK BN HB hd0 hd1 hd2 hd3 hd4 ⊢
             have hbp := fun (p : Bel w8) => below_step HB.out p.h
             have hz0 : ∀ p : Bel w8, p.v.cell? ⟨gb, 0, none⟩ = some (.slice A0_0 l0_0.length c0_0) := fun p => cell_bel ((blk_cell BK.out 0).trans rfl) p
             have hz1 : ∀ p : Bel w8, p.v.cell? ⟨gb, 1, none⟩ = some (.slice (some ad) l0_1.length c0_1) := fun p => cell_bel ((blk_cell BK.out 1).trans rfl) p
             have hz2 : ∀ p : Bel w8, p.v.cell? ⟨gn, 0, none⟩ = some (.int .i64 e0) := fun p => cell_bel ((blk_cell BN.out 0).trans rfl) p
             have hz3 : ∀ p : Bel w8, p.v.cell? ⟨gn, 1, none⟩ = some (.int .i64 e1) := fun p => cell_bel ((blk_cell BN.out 1).trans rfl) p
             have hz4 : ∀ p : Bel w8, p.v.cell? ⟨gn, 2, none⟩ = some (.int .i64 e2) := fun p => cell_bel ((blk_cell BN.out 2).trans rfl) p
             have hz5 : ∀ p : Bel w8, p.v.cell? ⟨gn, 3, none⟩ = some (.int .i64 e3) := fun p => cell_bel ((blk_cell BN.out 3).trans rfl) p
             have hz6 : ∀ p : Bel w8, p.v.cell? ⟨gn, 4, none⟩ = some (.int .i64 e4) := fun p => cell_bel ((blk_cell BN.out 4).trans rfl) p
             have hz7 : ∀ p : Bel w8, p.v.cell? (ad.add (q.toNat * 5)) = some (.int .i64 d0) := fun p => cell_bel (hd0) p
             have hz8 : ∀ p : Bel w8, p.v.cell? ⟨(ad.add (q.toNat * 5)).block, (ad.add (q.toNat * 5)).off + 1, none⟩ = some (.int .i64 d1) := fun p => cell_bel (hd1) p
             have hz9 : ∀ p : Bel w8, p.v.cell? ⟨(ad.add (q.toNat * 5)).block, (ad.add (q.toNat * 5)).off + 2, none⟩ = some (.int .i64 d2) := fun p => cell_bel (hd2) p
             have hz10 : ∀ p : Bel w8, p.v.cell? ⟨(ad.add (q.toNat * 5)).block, (ad.add (q.toNat * 5)).off + 3, none⟩ = some (.int .i64 d3) := fun p => cell_bel (hd3) p
             have hz11 : ∀ p : Bel w8, p.v.cell? ⟨(ad.add (q.toNat * 5)).block, (ad.add (q.toNat * 5)).off + 4, none⟩ = some (.int .i64 d4) := fun p => cell_bel (hd4) p
             repeat (go_big_quiet_step (first
              | (with_reducible show Calls Try.prog 77 #[.agg #[.int .i64 e0, .int .i64 e1, .int .i64 e2, .int .i64 e3, .int .i64 e4]] _ _; with_reducible exact calls_bel (spec_EdgeOk.calls e0 e1 e2 e3 e4 true _ A1.out))
              | (with_reducible show Calls Try.prog 78 #[.agg #[.int .i64 d0, .int .i64 d1, .int .i64 d2, .int .i64 d3, .int .i64 d4], .agg #[.int .i64 e0, .int .i64 e1, .int .i64 e2, .int .i64 e3, .int .i64 e4]] _ _; with_reducible exact calls_bel (spec_l2Less.calls d0 d1 d2 d3 d4 e0 e1 e2 e3 e4 true _ A2.out))
              | (with_reducible show Calls Try.prog 62 #[.agg #[.slice A0_0 l0_0.length c0_0, .slice (some ad) l0_1.length c0_1], .agg #[.int .i64 e1, .int .i64 e2]] _ _; with_reducible refine calls_bel (spec_l2At.calls k2 _ _ l0_0 _ _ l0_1 e1 e2 t3 _ ?s1 ?s2 ?s3 ?s4 A3.out); (case s1 => exact Kd.C_below HR0_0.out (hbp _)); (case s2 => exact HC0_0.out); (case s3 => exact Kd.C_below HR0_1.out (hbp _)); (case s4 => exact HC0_1.out))
              | (with_reducible show Calls Try.prog 62 #[.agg #[.slice A0_0 l0_0.length c0_0, .slice (some ad) l0_1.length c0_1], .agg #[.int .i64 e3, .int .i64 e4]] _ _; with_reducible refine calls_bel (spec_l2At.calls k2 _ _ l0_0 _ _ l0_1 e3 e4 t4 _ ?s1 ?s2 ?s3 ?s4 A4.out); (case s1 => exact Kd.C_below HR0_0.out (hbp _)); (case s2 => exact HC0_0.out); (case s3 => exact Kd.C_below HR0_1.out (hbp _)); (case s4 => exact HC0_1.out))))
             refine wpQuiet_nil ?_
             intro w9 hw'
             obtain ⟨⟨wq_, hb⟩, hw''⟩ := hw'
             subst hw''
             clear hbp hz0 hz1 hz2 hz3 hz4 hz5 hz6 hz7 hz8 hz9 hz10 hz11 hd0 hd1 hd2 hd3 hd4
             replace BK := bb BK hb rfl
             replace BN := Aside0.mk (blk_belowD BN.out hb rfl)
             replace HB := hs HB hb
             clear hb
             go_wp2
             go_ret
             exact ⟨eqs, bs HB.out⟩
            ·rw [if_neg c4] at H
             have c4b : decide (t4 < 0) = false := decide_eq_false c4
             clear c4
             by_cases c5 : x4 ≥ 56
             ·rw [if_pos c5] at H
              have c5b := decide_eq_true c5
              replace c5b : decide (56 ≤ x4) = true := c5b
              clear c5
              obtain rfl := Option.some.inj H
              go_wp2
              replace BK := bd BK
              replace BN := Aside0.mk (blk_drew BN.out)
              replace HB := hd HB
              have hd0 : w6.drew.cell? (ad.add (q.toNat * 5)) = some (.int .i64 d0) := hy0
              have hd1 : w6.drew.cell? ⟨(ad.add (q.toNat * 5)).block, (ad.add (q.toNat * 5)).off + 1, none⟩ = some (.int .i64 d1) := hy1
              have hd2 : w6.drew.cell? ⟨(ad.add (q.toNat * 5)).block, (ad.add (q.toNat * 5)).off + 2, none⟩ = some (.int .i64 d2) := hy2
              have hd3 : w6.drew.cell? ⟨(ad.add (q.toNat * 5)).block, (ad.add (q.toNat * 5)).off + 3, none⟩ = some (.int .i64 d3) := hy3
              have hd4 : w6.drew.cell? ⟨(ad.add (q.toNat * 5)).block, (ad.add (q.toNat * 5)).off + 4, none⟩ = some (.int .i64 d4) := hy4
              refine wp_region_bel (by kernel_rfl) (by kernel_rfl) ?_
              generalize w6.drew = w8 at BK BN HB hd0 hd1 hd2 hd3 hd4 ⊢
              have hbp := fun (p : Bel w8) => below_step HB.out p.h
              have hz0 : ∀ p : Bel w8, p.v.cell? ⟨gb, 0, none⟩ = some (.slice A0_0 l0_0.length c0_0) := fun p => cell_bel ((blk_cell BK.out 0).trans rfl) p
              have hz1 : ∀ p : Bel w8, p.v.cell? ⟨gb, 1, none⟩ = some (.slice (some ad) l0_1.length c0_1) := fun p => cell_bel ((blk_cell BK.out 1).trans rfl) p
              have hz2 : ∀ p : Bel w8, p.v.cell? ⟨gn, 0, none⟩ = some (.int .i64 e0) := fun p => cell_bel ((blk_cell BN.out 0).trans rfl) p
              have hz3 : ∀ p : Bel w8, p.v.cell? ⟨gn, 1, none⟩ = some (.int .i64 e1) := fun p => cell_bel ((blk_cell BN.out 1).trans rfl) p
              have hz4 : ∀ p : Bel w8, p.v.cell? ⟨gn, 2, none⟩ = some (.int .i64 e2) := fun p => cell_bel ((blk_cell BN.out 2).trans rfl) p
              have hz5 : ∀ p : Bel w8, p.v.cell? ⟨gn, 3, none⟩ = some (.int .i64 e3) := fun p => cell_bel ((blk_cell BN.out 3).trans rfl) p
              have hz6 : ∀ p : Bel w8, p.v.cell? ⟨gn, 4, none⟩ = some (.int .i64 e4) := fun p => cell_bel ((blk_cell BN.out 4).trans rfl) p
              have hz7 : ∀ p : Bel w8, p.v.cell? (ad.add (q.toNat * 5)) = some (.int .i64 d0) := fun p => cell_bel (hd0) p
              have hz8 : ∀ p : Bel w8, p.v.cell? ⟨(ad.add (q.toNat * 5)).block, (ad.add (q.toNat * 5)).off + 1, none⟩ = some (.int .i64 d1) := fun p => cell_bel (hd1) p
              have hz9 : ∀ p : Bel w8, p.v.cell? ⟨(ad.add (q.toNat * 5)).block, (ad.add (q.toNat * 5)).off + 2, none⟩ = some (.int .i64 d2) := fun p => cell_bel (hd2) p
              have hz10 : ∀ p : Bel w8, p.v.cell? ⟨(ad.add (q.toNat * 5)).block, (ad.add (q.toNat * 5)).off + 3, none⟩ = some (.int .i64 d3) := fun p => cell_bel (hd3) p
              have hz11 : ∀ p : Bel w8, p.v.cell? ⟨(ad.add (q.toNat * 5)).block, (ad.add (q.toNat * 5)).off + 4, none⟩ = some (.int .i64 d4) := fun p => cell_bel (hd4) p
              repeat (go_big_quiet_step (first
               | (with_reducible show Calls Try.prog 77 #[.agg #[.int .i64 e0, .int .i64 e1, .int .i64 e2, .int .i64 e3, .int .i64 e4]] _ _; with_reducible exact calls_bel (spec_EdgeOk.calls e0 e1 e2 e3 e4 true _ A1.out))
               | (with_reducible show Calls Try.prog 78 #[.agg #[.int .i64 d0, .int .i64 d1, .int .i64 d2, .int .i64 d3, .int .i64 d4], .agg #[.int .i64 e0, .int .i64 e1, .int .i64 e2, .int .i64 e3, .int .i64 e4]] _ _; with_reducible exact calls_bel (spec_l2Less.calls d0 d1 d2 d3 d4 e0 e1 e2 e3 e4 true _ A2.out))
               | (with_reducible show Calls Try.prog 62 #[.agg #[.slice A0_0 l0_0.length c0_0, .slice (some ad) l0_1.length c0_1], .agg #[.int .i64 e1, .int .i64 e2]] _ _; with_reducible refine calls_bel (spec_l2At.calls k2 _ _ l0_0 _ _ l0_1 e1 e2 t3 _ ?s1 ?s2 ?s3 ?s4 A3.out); (case s1 => exact Kd.C_below HR0_0.out (hbp _)); (case s2 => exact HC0_0.out); (case s3 => exact Kd.C_below HR0_1.out (hbp _)); (case s4 => exact HC0_1.out))
               | (with_reducible show Calls Try.prog 62 #[.agg #[.slice A0_0 l0_0.length c0_0, .slice (some ad) l0_1.length c0_1], .agg #[.int .i64 e3, .int .i64 e4]] _ _; with_reducible refine calls_bel (spec_l2At.calls k2 _ _ l0_0 _ _ l0_1 e3 e4 t4 _ ?s1 ?s2 ?s3 ?s4 A4.out); (case s1 => exact Kd.C_below HR0_0.out (hbp _)); (case s2 => exact HC0_0.out); (case s3 => exact Kd.C_below HR0_1.out (hbp _)); (case s4 => exact HC0_1.out))))
              refine wpQuiet_nil ?_
              intro w9 hw'
              obtain ⟨⟨wq_, hb⟩, hw''⟩ := hw'
              subst hw''
              clear hbp hz0 hz1 hz2 hz3 hz4 hz5 hz6 hz7 hz8 hz9 hz10 hz11 hd0 hd1 hd2 hd3 hd4
              replace BK := bb BK hb rfl
              replace BN := Aside0.mk (blk_belowD BN.out hb rfl)
              replace HB := hs HB hb
              clear hb
              go_wp2
              go_ret
              exact ⟨eqs, bs HB.out⟩
             ·rw [if_neg c5] at H
              have c5b : decide (56 ≤ x4) = false := decide_eq_false c5
              clear c5
              have H' := Aside0.mk H
              clear H
              go_wp2
              replace BK := bd BK
              replace BN := Aside0.mk (blk_drew BN.out)
              replace HB := hd HB
              have hd0 : w6.drew.cell? (ad.add (q.toNat * 5)) = some (.int .i64 d0) := hy0
              have hd1 : w6.drew.cell? ⟨(ad.add (q.toNat * 5)).block, (ad.add (q.toNat * 5)).off + 1, none⟩ = some (.int .i64 d1) := hy1
              have hd2 : w6.drew.cell? ⟨(ad.add (q.toNat * 5)).block, (ad.add (q.toNat * 5)).off + 2, none⟩ = some (.int .i64 d2) := hy2
              have hd3 : w6.drew.cell? ⟨(ad.add (q.toNat * 5)).block, (ad.add (q.toNat * 5)).off + 3, none⟩ = some (.int .i64 d3) := hy3
              have hd4 : w6.drew.cell? ⟨(ad.add (q.toNat * 5)).block, (ad.add (q.toNat * 5)).off + 4, none⟩ = some (.int .i64 d4) := hy4
              refine wp_region_bel (by kernel_rfl) (by kernel_rfl) ?_
              generalize w6.drew = w8 at BK BN HB hd0 hd1 hd2 hd3 hd4 ⊢
              have hbp := fun (p : Bel w8) => below_step HB.out p.h
              have hz0 : ∀ p : Bel w8, p.v.cell? ⟨gb, 0, none⟩ = some (.slice A0_0 l0_0.length c0_0) := fun p => cell_bel ((blk_cell BK.out 0).trans rfl) p
              have hz1 : ∀ p : Bel w8, p.v.cell? ⟨gb, 1, none⟩ = some (.slice (some ad) l0_1.length c0_1) := fun p => cell_bel ((blk_cell BK.out 1).trans rfl) p
              have hz2 : ∀ p : Bel w8, p.v.cell? ⟨gn, 0, none⟩ = some (.int .i64 e0) := fun p => cell_bel ((blk_cell BN.out 0).trans rfl) p
              have hz3 : ∀ p : Bel w8, p.v.cell? ⟨gn, 1, none⟩ = some (.int .i64 e1) := fun p => cell_bel ((blk_cell BN.out 1).trans rfl) p
              have hz4 : ∀ p : Bel w8, p.v.cell? ⟨gn, 2, none⟩ = some (.int .i64 e2) := fun p => cell_bel ((blk_cell BN.out 2).trans rfl) p
              have hz5 : ∀ p : Bel w8, p.v.cell? ⟨gn, 3, none⟩ = some (.int .i64 e3) := fun p => cell_bel ((blk_cell BN.out 3).trans rfl) p
              have hz6 : ∀ p : Bel w8, p.v.cell? ⟨gn, 4, none⟩ = some (.int .i64 e4) := fun p => cell_bel ((blk_cell BN.out 4).trans rfl) p
              have hz7 : ∀ p : Bel w8, p.v.cell? (ad.add (q.toNat * 5)) = some (.int .i64 d0) := fun p => cell_bel (hd0) p
              have hz8 : ∀ p : Bel w8, p.v.cell? ⟨(ad.add (q.toNat * 5)).block, (ad.add (q.toNat * 5)).off + 1, none⟩ = some (.int .i64 d1) := fun p => cell_bel (hd1) p
              have hz9 : ∀ p : Bel w8, p.v.cell? ⟨(ad.add (q.toNat * 5)).block, (ad.add (q.toNat * 5)).off + 2, none⟩ = some (.int .i64 d2) := fun p => cell_bel (hd2) p
              have hz10 : ∀ p : Bel w8, p.v.cell? ⟨(ad.add (q.toNat * 5)).block, (ad.add (q.toNat * 5)).off + 3, none⟩ = some (.int .i64 d3) := fun p => cell_bel (hd3) p
              have hz11 : ∀ p : Bel w8, p.v.cell? ⟨(ad.add (q.toNat * 5)).block, (ad.add (q.toNat * 5)).off + 4, none⟩ = some (.int .i64 d4) := fun p => cell_bel (hd4) p
              repeat (go_big_quiet_step (first
               | (with_reducible show Calls Try.prog 77 #[.agg #[.int .i64 e0, .int .i64 e1, .int .i64 e2, .int .i64 e3, .int .i64 e4]] _ _; with_reducible exact calls_bel (spec_EdgeOk.calls e0 e1 e2 e3 e4 true _ A1.out))
               | (with_reducible show Calls Try.prog 78 #[.agg #[.int .i64 d0, .int .i64 d1, .int .i64 d2, .int .i64 d3, .int .i64 d4], .agg #[.int .i64 e0, .int .i64 e1, .int .i64 e2, .int .i64 e3, .int .i64 e4]] _ _; with_reducible exact calls_bel (spec_l2Less.calls d0 d1 d2 d3 d4 e0 e1 e2 e3 e4 true _ A2.out))
               | (with_reducible show Calls Try.prog 62 #[.agg #[.slice A0_0 l0_0.length c0_0, .slice (some ad) l0_1.length c0_1], .agg #[.int .i64 e1, .int .i64 e2]] _ _; with_reducible refine calls_bel (spec_l2At.calls k2 _ _ l0_0 _ _ l0_1 e1 e2 t3 _ ?s1 ?s2 ?s3 ?s4 A3.out); (case s1 => exact Kd.C_below HR0_0.out (hbp _)); (case s2 => exact HC0_0.out); (case s3 => exact Kd.C_below HR0_1.out (hbp _)); (case s4 => exact HC0_1.out))
               | (with_reducible show Calls Try.prog 62 #[.agg #[.slice A0_0 l0_0.length c0_0, .slice (some ad) l0_1.length c0_1], .agg #[.int .i64 e3, .int .i64 e4]] _ _; with_reducible refine calls_bel (spec_l2At.calls k2 _ _ l0_0 _ _ l0_1 e3 e4 t4 _ ?s1 ?s2 ?s3 ?s4 A4.out); (case s1 => exact Kd.C_below HR0_0.out (hbp _)); (case s2 => exact HC0_0.out); (case s3 => exact Kd.C_below HR0_1.out (hbp _)); (case s4 => exact HC0_1.out))))
              refine wpQuiet_nil ?_
              intro w9 hw'
              obtain ⟨⟨wq_, hb⟩, hw''⟩ := hw'
              subst hw''
              clear hbp hz0 hz1 hz2 hz3 hz4 hz5 hz6 hz7 hz8 hz9 hz10 hz11 hd0 hd1 hd2 hd3 hd4
              replace BK := bb BK hb rfl
              replace BN := Aside0.mk (blk_belowD BN.out hb rfl)
              replace HB := hs HB hb
              clear hb
              go_wp2
              go_roundg k2
              case measure => have := HK_.out; omega
              case rel => exact ⟨wrap64 (x4 + 1), eqs, H', ⟨by have := HK_.out; omega⟩, ⟨bf BK.out⟩, ⟨bs HB.out⟩⟩
          ·replace cb_ := Bool.eq_false_iff.mpr cb_
           subst cb_
           replace H := (if_neg (show ¬ (false = true) by decide)).symm.trans H
           obtain rfl := Option.some.inj H
           go_wp2
           replace BK := bd BK
           replace BN := Aside0.mk (blk_drew BN.out)
           replace HB := hd HB
           have hd0 : w6.drew.cell? (ad.add (q.toNat * 5)) = some (.int .i64 d0) := hy0
           have hd1 : w6.drew.cell? ⟨(ad.add (q.toNat * 5)).block, (ad.add (q.toNat * 5)).off + 1, none⟩ = some (.int .i64 d1) := hy1
           have hd2 : w6.drew.cell? ⟨(ad.add (q.toNat * 5)).block, (ad.add (q.toNat * 5)).off + 2, none⟩ = some (.int .i64 d2) := hy2
           have hd3 : w6.drew.cell? ⟨(ad.add (q.toNat * 5)).block, (ad.add (q.toNat * 5)).off + 3, none⟩ = some (.int .i64 d3) := hy3
           have hd4 : w6.drew.cell? ⟨(ad.add (q.toNat * 5)).block, (ad.add (q.toNat * 5)).off + 4, none⟩ = some (.int .i64 d4) := hy4
           refine wp_region_bel (by kernel_rfl) (by kernel_rfl) ?_
           generalize w6.drew = w8 at BK BN HB hd0 hd1 hd2 hd3 hd4 ⊢
           have hbp := fun (p : Bel w8) => below_step HB.out p.h
           have hz0 : ∀ p : Bel w8, p.v.cell? ⟨gb, 0, none⟩ = some (.slice A0_0 l0_0.length c0_0) := fun p => cell_bel ((blk_cell BK.out 0).trans rfl) p
           have hz1 : ∀ p : Bel w8, p.v.cell? ⟨gb, 1, none⟩ = some (.slice (some ad) l0_1.length c0_1) := fun p => cell_bel ((blk_cell BK.out 1).trans rfl) p
           have hz2 : ∀ p : Bel w8, p.v.cell? ⟨gn, 0, none⟩ = some (.int .i64 e0) := fun p => cell_bel ((blk_cell BN.out 0).trans rfl) p
           have hz3 : ∀ p : Bel w8, p.v.cell? ⟨gn, 1, none⟩ = some (.int .i64 e1) := fun p => cell_bel ((blk_cell BN.out 1).trans rfl) p
           have hz4 : ∀ p : Bel w8, p.v.cell? ⟨gn, 2, none⟩ = some (.int .i64 e2) := fun p => cell_bel ((blk_cell BN.out 2).trans rfl) p
           have hz5 : ∀ p : Bel w8, p.v.cell? ⟨gn, 3, none⟩ = some (.int .i64 e3) := fun p => cell_bel ((blk_cell BN.out 3).trans rfl) p
           have hz6 : ∀ p : Bel w8, p.v.cell? ⟨gn, 4, none⟩ = some (.int .i64 e4) := fun p => cell_bel ((blk_cell BN.out 4).trans rfl) p
           have hz7 : ∀ p : Bel w8, p.v.cell? (ad.add (q.toNat * 5)) = some (.int .i64 d0) := fun p => cell_bel (hd0) p
           have hz8 : ∀ p : Bel w8, p.v.cell? ⟨(ad.add (q.toNat * 5)).block, (ad.add (q.toNat * 5)).off + 1, none⟩ = some (.int .i64 d1) := fun p => cell_bel (hd1) p
           have hz9 : ∀ p : Bel w8, p.v.cell? ⟨(ad.add (q.toNat * 5)).block, (ad.add (q.toNat * 5)).off + 2, none⟩ = some (.int .i64 d2) := fun p => cell_bel (hd2) p
           have hz10 : ∀ p : Bel w8, p.v.cell? ⟨(ad.add (q.toNat * 5)).block, (ad.add (q.toNat * 5)).off + 3, none⟩ = some (.int .i64 d3) := fun p => cell_bel (hd3) p
           have hz11 : ∀ p : Bel w8, p.v.cell? ⟨(ad.add (q.toNat * 5)).block, (ad.add (q.toNat * 5)).off + 4, none⟩ = some (.int .i64 d4) := fun p => cell_bel (hd4) p
           repeat (go_big_quiet_step (first
            | (with_reducible show Calls Try.prog 77 #[.agg #[.int .i64 e0, .int .i64 e1, .int .i64 e2, .int .i64 e3, .int .i64 e4]] _ _; with_reducible exact calls_bel (spec_EdgeOk.calls e0 e1 e2 e3 e4 true _ A1.out))
            | (with_reducible show Calls Try.prog 78 #[.agg #[.int .i64 d0, .int .i64 d1, .int .i64 d2, .int .i64 d3, .int .i64 d4], .agg #[.int .i64 e0, .int .i64 e1, .int .i64 e2, .int .i64 e3, .int .i64 e4]] _ _; with_reducible exact calls_bel (spec_l2Less.calls d0 d1 d2 d3 d4 e0 e1 e2 e3 e4 false _ A2.out))))
           refine wpQuiet_nil ?_
           intro w9 hw'
           obtain ⟨⟨wq_, hb⟩, hw''⟩ := hw'
           subst hw''
           clear hbp hz0 hz1 hz2 hz3 hz4 hz5 hz6 hz7 hz8 hz9 hz10 hz11 hd0 hd1 hd2 hd3 hd4
           replace BK := bb BK hb rfl
           replace BN := Aside0.mk (blk_belowD BN.out hb rfl)
           replace HB := hs HB hb
           clear hb
           go_wp2
           go_ret
           exact ⟨eqs, bs HB.out⟩
         ·rw [if_neg c0] at H
          have c0b : decide (0 < x4) = false := decide_eq_false c0
          clear c0
          replace H := Option.bind_eq_some_iff.mp H
          obtain ⟨t3, A30, H⟩ := H
          have A3 := Aside0.mk A30
          clear A30
          by_cases c3 : t3 < 0
          ·rw [if_pos c3] at H
           have c3b := decide_eq_true c3
           replace c3b : decide (t3 < 0) = true := c3b
           clear c3
           obtain rfl := Option.some.inj H
           go_wp2
           replace BK := bd BK
           replace BN := Aside0.mk (blk_drew BN.out)
           replace HB := hd HB
           refine wp_region_bel (by kernel_rfl) (by kernel_rfl) ?_
           generalize w6.drew = w8 at BK BN HB ⊢
           have hbp := fun (p : Bel w8) => below_step HB.out p.h
           have hz0 : ∀ p : Bel w8, p.v.cell? ⟨gb, 0, none⟩ = some (.slice A0_0 l0_0.length c0_0) := fun p => cell_bel ((blk_cell BK.out 0).trans rfl) p
           have hz1 : ∀ p : Bel w8, p.v.cell? ⟨gb, 1, none⟩ = some (.slice (some ad) l0_1.length c0_1) := fun p => cell_bel ((blk_cell BK.out 1).trans rfl) p
           have hz2 : ∀ p : Bel w8, p.v.cell? ⟨gn, 0, none⟩ = some (.int .i64 e0) := fun p => cell_bel ((blk_cell BN.out 0).trans rfl) p
           have hz3 : ∀ p : Bel w8, p.v.cell? ⟨gn, 1, none⟩ = some (.int .i64 e1) := fun p => cell_bel ((blk_cell BN.out 1).trans rfl) p
           have hz4 : ∀ p : Bel w8, p.v.cell? ⟨gn, 2, none⟩ = some (.int .i64 e2) := fun p => cell_bel ((blk_cell BN.out 2).trans rfl) p
           have hz5 : ∀ p : Bel w8, p.v.cell? ⟨gn, 3, none⟩ = some (.int .i64 e3) := fun p => cell_bel ((blk_cell BN.out 3).trans rfl) p
           have hz6 : ∀ p : Bel w8, p.v.cell? ⟨gn, 4, none⟩ = some (.int .i64 e4) := fun p => cell_bel ((blk_cell BN.out 4).trans rfl) p
           repeat (go_big_quiet_step (first
            | (with_reducible show Calls Try.prog 77 #[.agg #[.int .i64 e0, .int .i64 e1, .int .i64 e2, .int .i64 e3, .int .i64 e4]] _ _; with_reducible exact calls_bel (spec_EdgeOk.calls e0 e1 e2 e3 e4 true _ A1.out))
            | (with_reducible show Calls Try.prog 62 #[.agg #[.slice A0_0 l0_0.length c0_0, .slice (some ad) l0_1.length c0_1], .agg #[.int .i64 e1, .int .i64 e2]] _ _; with_reducible refine calls_bel (spec_l2At.calls k2 _ _ l0_0 _ _ l0_1 e1 e2 t3 _ ?s1 ?s2 ?s3 ?s4 A3.out); (case s1 => exact Kd.C_below HR0_0.out (hbp _)); (case s2 => exact HC0_0.out); (case s3 => exact Kd.C_below HR0_1.out (hbp _)); (case s4 => exact HC0_1.out))))
           refine wpQuiet_nil ?_
           intro w9 hw'
           obtain ⟨⟨wq_, hb⟩, hw''⟩ := hw'
           subst hw''
           clear hbp hz0 hz1 hz2 hz3 hz4 hz5 hz6
           replace BK := bb BK hb rfl
           replace BN := Aside0.mk (blk_belowD BN.out hb rfl)
           replace HB := hs HB hb
           clear hb
           go_wp2
           go_ret
           exact ⟨eqs, bs HB.out⟩
          ·rw [if_neg c3] at H
           have c3b : decide (t3 < 0) = false := decide_eq_false c3
           clear c3
           replace H := Option.bind_eq_some_iff.mp H
           obtain ⟨t4, A40, H⟩ := H
           have A4 := Aside0.mk A40
           clear A40
           by_cases c4 : t4 < 0
           ·rw [if_pos c4] at H
            have c4b := decide_eq_true c4
            replace c4b : decide (t4 < 0) = true := c4b
            clear c4
            obtain rfl := Option.some.inj H
            go_wp2
            replace BK := bd BK
            replace BN := Aside0.mk (blk_drew BN.out)
            replace HB := hd HB
            refine wp_region_bel (by kernel_rfl) (by kernel_rfl) ?_
            generalize w6.drew = w8 at BK BN HB ⊢
            have hbp := fun (p : Bel w8) => below_step HB.out p.h
            have hz0 : ∀ p : Bel w8, p.v.cell? ⟨gb, 0, none⟩ = some (.slice A0_0 l0_0.length c0_0) := fun p => cell_bel ((blk_cell BK.out 0).trans rfl) p
            have hz1 : ∀ p : Bel w8, p.v.cell? ⟨gb, 1, none⟩ = some (.slice (some ad) l0_1.length c0_1) := fun p => cell_bel ((blk_cell BK.out 1).trans rfl) p
            have hz2 : ∀ p : Bel w8, p.v.cell? ⟨gn, 0, none⟩ = some (.int .i64 e0) := fun p => cell_bel ((blk_cell BN.out 0).trans rfl) p
            have hz3 : ∀ p : Bel w8, p.v.cell? ⟨gn, 1, none⟩ = some (.int .i64 e1) := fun p => cell_bel ((blk_cell BN.out 1).trans rfl) p
            have hz4 : ∀ p : Bel w8, p.v.cell? ⟨gn, 2, none⟩ = some (.int .i64 e2) := fun p => cell_bel ((blk_cell BN.out 2).trans rfl) p
            have hz5 : ∀ p : Bel w8, p.v.cell? ⟨gn, 3, none⟩ = some (.int .i64 e3) := fun p => cell_bel ((blk_cell BN.out 3).trans rfl) p
            have hz6 : ∀ p : Bel w8, p.v.cell? ⟨gn, 4, none⟩ = some (.int .i64 e4) := fun p => cell_bel ((blk_cell BN.out 4).trans rfl) p
            repeat (go_big_quiet_step (first
             | (with_reducible show Calls Try.prog 77 #[.agg #[.int .i64 e0, .int .i64 e1, .int .i64 e2, .int .i64 e3, .int .i64 e4]] _ _; with_reducible exact calls_bel (spec_EdgeOk.calls e0 e1 e2 e3 e4 true _ A1.out))
             | (with_reducible show Calls Try.prog 62 #[.agg #[.slice A0_0 l0_0.length c0_0, .slice (some ad) l0_1.length c0_1], .agg #[.int .i64 e1, .int .i64 e2]] _ _; with_reducible refine calls_bel (spec_l2At.calls k2 _ _ l0_0 _ _ l0_1 e1 e2 t3 _ ?s1 ?s2 ?s3 ?s4 A3.out); (case s1 => exact Kd.C_below HR0_0.out (hbp _)); (case s2 => exact HC0_0.out); (case s3 => exact Kd.C_below HR0_1.out (hbp _)); (case s4 => exact HC0_1.out))
             | (with_reducible show Calls Try.prog 62 #[.agg #[.slice A0_0 l0_0.length c0_0, .slice (some ad) l0_1.length c0_1], .agg #[.int .i64 e3, .int .i64 e4]] _ _; with_reducible refine calls_bel (spec_l2At.calls k2 _ _ l0_0 _ _ l0_1 e3 e4 t4 _ ?s1 ?s2 ?s3 ?s4 A4.out); (case s1 => exact Kd.C_below HR0_0.out (hbp _)); (case s2 => exact HC0_0.out); (case s3 => exact Kd.C_below HR0_1.out (hbp _)); (case s4 => exact HC0_1.out))))
            refine wpQuiet_nil ?_
            intro w9 hw'
            obtain ⟨⟨wq_, hb⟩, hw''⟩ := hw'
            subst hw''
            clear hbp hz0 hz1 hz2 hz3 hz4 hz5 hz6
            replace BK := bb BK hb rfl
            replace BN := Aside0.mk (blk_belowD BN.out hb rfl)
            replace HB := hs HB hb
            clear hb
            go_wp2
            go_ret
            exact ⟨eqs, bs HB.out⟩
           ·rw [if_neg c4] at H
            have c4b : decide (t4 < 0) = false := decide_eq_false c4
            clear c4
            by_cases c5 : x4 ≥ 56
            ·rw [if_pos c5] at H
             have c5b := decide_eq_true c5
             replace c5b : decide (56 ≤ x4) = true := c5b
             clear c5
             obtain rfl := Option.some.inj H
             go_wp2
             replace BK := bd BK
             replace BN := Aside0.mk (blk_drew BN.out)
             replace HB := hd HB
             refine wp_region_bel (by kernel_rfl) (by kernel_rfl) ?_
             generalize w6.drew = w8 at BK BN HB ⊢
             have hbp := fun (p : Bel w8) => below_step HB.out p.h
             have hz0 : ∀ p : Bel w8, p.v.cell? ⟨gb, 0, none⟩ = some (.slice A0_0 l0_0.length c0_0) := fun p => cell_bel ((blk_cell BK.out 0).trans rfl) p
             have hz1 : ∀ p : Bel w8, p.v.cell? ⟨gb, 1, none⟩ = some (.slice (some ad) l0_1.length c0_1) := fun p => cell_bel ((blk_cell BK.out 1).trans rfl) p
             have hz2 : ∀ p : Bel w8, p.v.cell? ⟨gn, 0, none⟩ = some (.int .i64 e0) := fun p => cell_bel ((blk_cell BN.out 0).trans rfl) p
             have hz3 : ∀ p : Bel w8, p.v.cell? ⟨gn, 1, none⟩ = some (.int .i64 e1) := fun p => cell_bel ((blk_cell BN.out 1).trans rfl) p
             have hz4 : ∀ p : Bel w8, p.v.cell? ⟨gn, 2, none⟩ = some (.int .i64 e2) := fun p => cell_bel ((blk_cell BN.out 2).trans rfl) p
             have hz5 : ∀ p : Bel w8, p.v.cell? ⟨gn, 3, none⟩ = some (.int .i64 e3) := fun p => cell_bel ((blk_cell BN.out 3).trans rfl) p
             have hz6 : ∀ p : Bel w8, p.v.cell? ⟨gn, 4, none⟩ = some (.int .i64 e4) := fun p => cell_bel ((blk_cell BN.out 4).trans rfl) p
             repeat (go_big_quiet_step (first
              | (with_reducible show Calls Try.prog 77 #[.agg #[.int .i64 e0, .int .i64 e1, .int .i64 e2, .int .i64 e3, .int .i64 e4]] _ _; with_reducible exact calls_bel (spec_EdgeOk.calls e0 e1 e2 e3 e4 true _ A1.out))
              | (with_reducible show Calls Try.prog 62 #[.agg #[.slice A0_0 l0_0.length c0_0, .slice (some ad) l0_1.length c0_1], .agg #[.int .i64 e1, .int .i64 e2]] _ _; with_reducible refine calls_bel (spec_l2At.calls k2 _ _ l0_0 _ _ l0_1 e1 e2 t3 _ ?s1 ?s2 ?s3 ?s4 A3.out); (case s1 => exact Kd.C_below HR0_0.out (hbp _)); (case s2 => exact HC0_0.out); (case s3 => exact Kd.C_below HR0_1.out (hbp _)); (case s4 => exact HC0_1.out))
              | (with_reducible show Calls Try.prog 62 #[.agg #[.slice A0_0 l0_0.length c0_0, .slice (some ad) l0_1.length c0_1], .agg #[.int .i64 e3, .int .i64 e4]] _ _; with_reducible refine calls_bel (spec_l2At.calls k2 _ _ l0_0 _ _ l0_1 e3 e4 t4 _ ?s1 ?s2 ?s3 ?s4 A4.out); (case s1 => exact Kd.C_below HR0_0.out (hbp _)); (case s2 => exact HC0_0.out); (case s3 => exact Kd.C_below HR0_1.out (hbp _)); (case s4 => exact HC0_1.out))))
             refine wpQuiet_nil ?_
             intro w9 hw'
             obtain ⟨⟨wq_, hb⟩, hw''⟩ := hw'
             subst hw''
             clear hbp hz0 hz1 hz2 hz3 hz4 hz5 hz6
             replace BK := bb BK hb rfl
             replace BN := Aside0.mk (blk_belowD BN.out hb rfl)
             replace HB := hs HB hb
             clear hb
             go_wp2
             go_ret
             exact ⟨eqs, bs HB.out⟩
            ·rw [if_neg c5] at H
             have c5b : decide (56 ≤ x4) = false := decide_eq_false c5
             clear c5
             have H' := Aside0.mk H
             clear H
             go_wp2
             replace BK := bd BK
             replace BN := Aside0.mk (blk_drew BN.out)
             replace HB := hd HB
             refine wp_region_bel (by kernel_rfl) (by kernel_rfl) ?_
             generalize w6.drew = w8 at BK BN HB ⊢
             have hbp := fun (p : Bel w8) => below_step HB.out p.h
             have hz0 : ∀ p : Bel w8, p.v.cell? ⟨gb, 0, none⟩ = some (.slice A0_0 l0_0.length c0_0) := fun p => cell_bel ((blk_cell BK.out 0).trans rfl) p
             have hz1 : ∀ p : Bel w8, p.v.cell? ⟨gb, 1, none⟩ = some (.slice (some ad) l0_1.length c0_1) := fun p => cell_bel ((blk_cell BK.out 1).trans rfl) p
             have hz2 : ∀ p : Bel w8, p.v.cell? ⟨gn, 0, none⟩ = some (.int .i64 e0) := fun p => cell_bel ((blk_cell BN.out 0).trans rfl) p
             have hz3 : ∀ p : Bel w8, p.v.cell? ⟨gn, 1, none⟩ = some (.int .i64 e1) := fun p => cell_bel ((blk_cell BN.out 1).trans rfl) p
             have hz4 : ∀ p : Bel w8, p.v.cell? ⟨gn, 2, none⟩ = some (.int .i64 e2) := fun p => cell_bel ((blk_cell BN.out 2).trans rfl) p
             have hz5 : ∀ p : Bel w8, p.v.cell? ⟨gn, 3, none⟩ = some (.int .i64 e3) := fun p => cell_bel ((blk_cell BN.out 3).trans rfl) p
             have hz6 : ∀ p : Bel w8, p.v.cell? ⟨gn, 4, none⟩ = some (.int .i64 e4) := fun p => cell_bel ((blk_cell BN.out 4).trans rfl) p
             repeat (go_big_quiet_step (first
              | (with_reducible show Calls Try.prog 77 #[.agg #[.int .i64 e0, .int .i64 e1, .int .i64 e2, .int .i64 e3, .int .i64 e4]] _ _; with_reducible exact calls_bel (spec_EdgeOk.calls e0 e1 e2 e3 e4 true _ A1.out))
              | (with_reducible show Calls Try.prog 62 #[.agg #[.slice A0_0 l0_0.length c0_0, .slice (some ad) l0_1.length c0_1], .agg #[.int .i64 e1, .int .i64 e2]] _ _; with_reducible refine calls_bel (spec_l2At.calls k2 _ _ l0_0 _ _ l0_1 e1 e2 t3 _ ?s1 ?s2 ?s3 ?s4 A3.out); (case s1 => exact Kd.C_below HR0_0.out (hbp _)); (case s2 => exact HC0_0.out); (case s3 => exact Kd.C_below HR0_1.out (hbp _)); (case s4 => exact HC0_1.out))
              | (with_reducible show Calls Try.prog 62 #[.agg #[.slice A0_0 l0_0.length c0_0, .slice (some ad) l0_1.length c0_1], .agg #[.int .i64 e3, .int .i64 e4]] _ _; with_reducible refine calls_bel (spec_l2At.calls k2 _ _ l0_0 _ _ l0_1 e3 e4 t4 _ ?s1 ?s2 ?s3 ?s4 A4.out); (case s1 => exact Kd.C_below HR0_0.out (hbp _)); (case s2 => exact HC0_0.out); (case s3 => exact Kd.C_below HR0_1.out (hbp _)); (case s4 => exact HC0_1.out))))
             refine wpQuiet_nil ?_
             intro w9 hw'
             obtain ⟨⟨wq_, hb⟩, hw''⟩ := hw'
             subst hw''
             clear hbp hz0 hz1 hz2 hz3 hz4 hz5 hz6
             replace BK := bb BK hb rfl
             replace BN := Aside0.mk (blk_belowD BN.out hb rfl)
             replace HB := hs HB hb
             clear hb
             go_wp2
             go_roundg k2
             case measure => have := HK_.out; omega
             case rel => exact ⟨wrap64 (x4 + 1), eqs, H', ⟨by have := HK_.out; omega⟩, ⟨bf BK.out⟩, ⟨bs HB.out⟩⟩
        ·replace cb_ := Bool.eq_false_iff.mpr cb_
         subst cb_
         replace H := (if_neg (show ¬ (false = true) by decide)).symm.trans H
         obtain rfl := Option.some.inj H
         go_wp2
         replace BK := bd BK
         replace BN := Aside0.mk (blk_drew BN.out)
         replace HB := hd HB
         refine wp_region_bel (by kernel_rfl) (by kernel_rfl) ?_
         generalize w6.drew = w8 at BK BN HB ⊢
         have hbp := fun (p : Bel w8) => below_step HB.out p.h
         have hz0 : ∀ p : Bel w8, p.v.cell? ⟨gb, 0, none⟩ = some (.slice A0_0 l0_0.length c0_0) := fun p => cell_bel ((blk_cell BK.out 0).trans rfl) p
         have hz1 : ∀ p : Bel w8, p.v.cell? ⟨gb, 1, none⟩ = some (.slice (some ad) l0_1.length c0_1) := fun p => cell_bel ((blk_cell BK.out 1).trans rfl) p
         have hz2 : ∀ p : Bel w8, p.v.cell? ⟨gn, 0, none⟩ = some (.int .i64 e0) := fun p => cell_bel ((blk_cell BN.out 0).trans rfl) p
         have hz3 : ∀ p : Bel w8, p.v.cell? ⟨gn, 1, none⟩ = some (.int .i64 e1) := fun p => cell_bel ((blk_cell BN.out 1).trans rfl) p
         have hz4 : ∀ p : Bel w8, p.v.cell? ⟨gn, 2, none⟩ = some (.int .i64 e2) := fun p => cell_bel ((blk_cell BN.out 2).trans rfl) p
         have hz5 : ∀ p : Bel w8, p.v.cell? ⟨gn, 3, none⟩ = some (.int .i64 e3) := fun p => cell_bel ((blk_cell BN.out 3).trans rfl) p
         have hz6 : ∀ p : Bel w8, p.v.cell? ⟨gn, 4, none⟩ = some (.int .i64 e4) := fun p => cell_bel ((blk_cell BN.out 4).trans rfl) p
         repeat (go_big_quiet_step (first
          | (with_reducible show Calls Try.prog 77 #[.agg #[.int .i64 e0, .int .i64 e1, .int .i64 e2, .int .i64 e3, .int .i64 e4]] _ _; with_reducible exact calls_bel (spec_EdgeOk.calls e0 e1 e2 e3 e4 false _ A1.out))))
         refine wpQuiet_nil ?_
         intro w9 hw'
         obtain ⟨⟨wq_, hb⟩, hw''⟩ := hw'
         subst hw''
         clear hbp hz0 hz1 hz2 hz3 hz4 hz5 hz6
         replace BK := bb BK hb rfl
         replace BN := Aside0.mk (blk_belowD BN.out hb rfl)
         replace HB := hs HB hb
         clear hb
         go_wp2
         go_ret
         exact ⟨eqs, bs HB.out⟩
       ·rw [if_neg p0] at H; cases H
      ·rw [if_neg c1] at H
       have c1b : decide (x4 < (l0_1.length : Int)) = false := decide_eq_false c1
       clear c1
       have H' := Aside0.mk H
       clear H
       go_wp2
       go_loopg [6] k2 (fun kq v_ w' => ∃ (x6 : Int), v_ = .int .i64 x6 ∧ Aside0 (spec_GraphOk.l2 kq x6 l0_0 l0_1 = some r) ∧ Aside0 (kq ≤ k2) ∧ Aside0 (w'.heap[gb]? = some (.cells #[.slice A0_0 l0_0.length c0_0, .slice A0_1 l0_1.length c0_1] 34 (0, 0))) ∧ Aside0 (Below w.heap.size w w'))
       case atStart => exact ⟨0, eqs, H', ⟨Nat.le_refl _⟩, ⟨bf BK.out⟩, ⟨bs HB.out⟩⟩
       case round =>
        clear H'
        obtain ⟨x6, rfl, HA, HK_, BK, HB⟩ := hrel
        cases gk with
        | zero => exact absurd HA.out (by simp [spec_GraphOk.l2])
        | succ k3 =>
         have H := HA.out
         clear HA
         simp only [spec_GraphOk.l2] at H
         have hcz0 : wr.cell? ⟨gb, 0, none⟩ = some (.slice A0_0 l0_0.length c0_0) := (blk_cell BK.out 0).trans rfl
         have hcz1 : wr.cell? ⟨gb, 1, none⟩ = some (.slice A0_1 l0_1.length c0_1) := (blk_cell BK.out 1).trans rfl
         by_cases c1 : x6 ≤ 7
         ·rw [if_pos c1] at H
          have c1b := decide_eq_true c1
          replace c1b : decide (x6 ≤ 7) = true := c1b
          clear c1
          replace H := Option.bind_eq_some_iff.mp H
          obtain ⟨t1, A10, H⟩ := H
          have A1 := Aside0.mk A10
          clear A10
          have hcn : True := trivial
          go_wp2_with fail
          refine (spec_l2Nodes.calls k3 _ _ l0_0 _ _ l0_1 x6 t1 _ ?s1 HC0_0.out ?s3 HC0_1.out A1.out).mono ?_
          case s1 => exact Kd.C_below HR0_0.out (bs HB.out)
          case s3 => exact Kd.C_below HR0_1.out (bs HB.out)
          rintro e w20 ⟨rfl, hb⟩
          clear hcz0 hcz1 hcn
          replace BK := bb BK hb rfl
          replace HB := hs HB hb
          clear hb
          have hcz0 : w20.cell? ⟨gb, 0, none⟩ = some (.slice A0_0 l0_0.length c0_0) := (blk_cell BK.out 0).trans rfl
          have hcz1 : w20.cell? ⟨gb, 1, none⟩ = some (.slice A0_1 l0_1.length c0_1) := (blk_cell BK.out 1).trans rfl
          by_cases c2 : t1 > 5
          ·rw [if_pos c2] at H
           have c2b := decide_eq_true c2
           replace c2b : decide (5 < t1) = true := c2b
           clear c2
           obtain rfl := Option.some.inj H
           go_wp2
           go_ret
           exact ⟨eqs, bs HB.out⟩
          ·rw [if_neg c2] at H
           have c2b : decide (5 < t1) = false := decide_eq_false c2
           clear c2
           replace H := Option.bind_eq_some_iff.mp H
           obtain ⟨t2, A20, H⟩ := H
           have A2 := Aside0.mk A20
           clear A20
           go_wp2_with fail
           refine (spec_l2Edges.calls k3 _ _ l0_0 _ _ l0_1 x6 t2 _ ?s5 HC0_0.out ?s7 HC0_1.out A2.out).mono ?_
           case s5 => exact Kd.C_below HR0_0.out (bs HB.out)
           case s7 => exact Kd.C_below HR0_1.out (bs HB.out)
           rintro e w21 ⟨rfl, hb⟩
           clear hcz0 hcz1
           replace BK := bb BK hb rfl
           replace HB := hs HB hb
           clear hb
           by_cases c3 : t2 > 7
           ·rw [if_pos c3] at H
            have c3b := decide_eq_true c3
            replace c3b : decide (7 < t2) = true := c3b
            clear c3
            obtain rfl := Option.some.inj H
            go_wp2
            go_ret
            exact ⟨eqs, bs HB.out⟩
           ·rw [if_neg c3] at H
            have c3b : decide (7 < t2) = false := decide_eq_false c3
            clear c3
            have H' := Aside0.mk H
            clear H
            go_wp2
            go_roundg k3
            case measure => have := HK_.out; omega
            case rel => exact ⟨wrap64 (x6 + 1), eqs, H', ⟨by have := HK_.out; omega⟩, ⟨bf BK.out⟩, ⟨bs HB.out⟩⟩
         ·rw [if_neg c1] at H
          have c1b : decide (x6 ≤ 7) = false := decide_eq_false c1
          clear c1
          obtain rfl := Option.some.inj H
          go_wp2
          go_ret
          exact ⟨eqs, bs HB.out⟩

end Go.Proofs.Ytohmemckdogljaa.QFnGraphView
