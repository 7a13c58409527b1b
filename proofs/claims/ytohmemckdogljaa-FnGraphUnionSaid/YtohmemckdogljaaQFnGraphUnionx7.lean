/- Contracts of the Go functions that this law reaches: each does what its plain Lean function says. No condition. -/
import Derived.Test.YtohmemckdogljaaQFnGraphUnionx0
import Derived.Test.YtohmemckdogljaaQFnGraphUnionx5
import Derived.Test.YtohmemckdogljaaQFnGraphUnionx6
namespace Go.Proofs.Ytohmemckdogljaa.QFnGraphUnion
open Go.RowKit Go.Proofs.YtohmemckdogljaaW.PrintWords Go.Proofs.YtohmemckdogljaaW.PrintLast Go.Proofs.YtohmemckdogljaaW.PrintMore Go.Proofs.Ytohmemckdogljaa.Bl
attribute [local go_sem] max2_int min2_int max_two min_two max_three min_three max_four min_four   -- for this text's walks alone
set_option linter.unusedVariables false
set_option linter.unusedSimpArgs false
set_option maxHeartbeats 8000000
set_option maxRecDepth 100000

/-! ### impl_edgesOk: function 82 -/
def impl_edgesOk.l0 : Nat → List S56 → List S36 → List Int → Int → Option Bool
 | 0, _, _, _, _ => none
 | k + 1, es, ns, m, i => if i < (es.length : Int) then (if 0 ≤ i then (if EOk (rd_T56 es i).f0 (rd_T56 es i).f1.f0 (rd_T56 es i).f1.f1 (rd_T56 es i).f2.f0 (rd_T56 es i).f2.f1 = true then (if rd m (rd_T56 es i).f0 = 7 then some false else (if i > 0 then (if 0 ≤ wrap64 (i - 1) then (if wrap64 (i - 1) < (es.length : Int) then (impl_edgeOrder.f k (rd_T56 es (wrap64 (i - 1))).f0 (rd_T56 es (wrap64 (i - 1))).f1.f0 (rd_T56 es (wrap64 (i - 1))).f1.f1 (rd_T56 es (wrap64 (i - 1))).f2.f0 (rd_T56 es (wrap64 (i - 1))).f2.f1 (rd_T56 es i).f0 (rd_T56 es i).f1.f0 (rd_T56 es i).f1.f1 (rd_T56 es i).f2.f0 (rd_T56 es i).f2.f1).bind fun t => if t ≥ 0 then some false else ((impl_nodeThere.f k ns (rd_T56 es i).f1.f0 (rd_T56 es i).f1.f1).bind fun s => if s = true then (impl_nodeThere.f k ns (rd_T56 es i).f2.f0 (rd_T56 es i).f2.f1).bind fun y => if y = true then impl_edgesOk.l0 k es ns (m.set ((rd_T56 es i).f0).toNat (wrap64 (rd m (rd_T56 es i).f0 + 1))) (wrap64 (i + 1)) else some false else some false) else none) else none) else ((impl_nodeThere.f k ns (rd_T56 es i).f1.f0 (rd_T56 es i).f1.f1).bind fun s => if s = true then (impl_nodeThere.f k ns (rd_T56 es i).f2.f0 (rd_T56 es i).f2.f1).bind fun y => if y = true then impl_edgesOk.l0 k es ns (m.set ((rd_T56 es i).f0).toNat (wrap64 (rd m (rd_T56 es i).f0 + 1))) (wrap64 (i + 1)) else some false else some false))) else some false) else none) else some true
def impl_edgesOk.f (k : Nat) (l0 : List S56) (l1 : List S36) : Option Bool := impl_edgesOk.l0 k l0 l1 [0, 0, 0, 0, 0, 0, 0, 0] 0
theorem impl_edgesOk.calls (k : Nat) (A0 : Option Addr) (c0 : Nat) (l0 : List S56) (A1 : Option Addr) (c1 : Nat) (l1 : List S36) (r : Bool) (w : World) (az : Kd.C k56 w A0 l0.length l0) (aA : l0.length ≤ c0) (aC : Kd.C k36 w A1 l1.length l1) (aD : l1.length ≤ c1) (h : impl_edgesOk.f k l0 l1 = some r) :
  Calls Try.prog 82 #[.slice A0 l0.length c0, .slice A1 l1.length c1] w fun e w' => e = .returned (.bool r) ∧ Below w.heap.size w w' := by
 have hu36 := Try.underlying36
 have hu56 := Try.underlying56
 have hu122 := Try.underlying122
 have ay := am az
 have bc := am aA
 have av := am aC
 have aw := am aD
 clear az aA aC aD
 have HB := am (Below.refl w.heap.size w)
 have H' := am (show impl_edgesOk.l0 k l0 l1 [0, 0, 0, 0, 0, 0, 0, 0] 0 = some r from h)
 clear h
 go_enter Try.func82, Try.ntmps82
 go_wp2_with (first | ((with_reducible refine gd 5 rfl ?_); refine bx 5 (cs := cts [0, 0, 0, 0, 0, 0, 0, 0]) (t := 122) ?_; intro gb hg w3 hbox hb; have BK := am hbox; have GE := Ge.mk ((by rw [hg]; exact (below_size (bs HB.out)) : w.heap.size ≤ gb)); replace HB := am (below_step HB.out hb); clear hg hb hbox))
 go_loopg [10] k (fun kq aX w' => ∃ (z : Int) (m : List Int), aX = .int .i64 z ∧ Aside0 (impl_edgesOk.l0 kq l0 l1 m z = some r) ∧ Aside0 (m.length = 8) ∧ Aside0 (kq ≤ k) ∧ Aside0 (w'.heap[gb]? = some (.cells (cts m) 122 (0, 0))) ∧ Aside0 (Below w.heap.size w w'))
 case atStart => exact ⟨0, [0, 0, 0, 0, 0, 0, 0, 0], eqs, H', ⟨rfl⟩, ⟨Nat.le_refl _⟩, ⟨bf BK.out⟩, ⟨bs HB.out⟩⟩
 case round =>
  clear H'
  obtain ⟨z, m, rfl, HA, HM, ax, BK, HB⟩ := hrel
  cases gk with
  | zero => exact absurd HA.out (by simp [impl_edgesOk.l0])
  | succ k1 =>
   have H := HA.out
   clear HA
   simp only [impl_edgesOk.l0] at H
   by_cases c1 : z < (l0.length : Int)
   ·rw [if_pos c1] at H
    have aY : decide (z < (l0.length : Int)) = true := decide_eq_true c1
    by_cases c2 : 0 ≤ z
    ·rw [if_pos c2] at H
     have p0 := c2
     have q0 := c1
     obtain ⟨ad, ea, aj, ak, al, an, ao⟩ := at_T56 ay.out z p0 q0
     cases ea
     have CX := am (show 0 ≤ z ∧ z < (l0.length : Int) from ⟨c2, c1⟩)
     replace aj := cb HB aj
     replace ak := cb HB ak
     replace al := cb HB al
     replace an := cb HB an
     replace ao := cb HB ao
     replace p0 := eq_true p0
     replace q0 := eq_true q0
     clear c1 c2
     generalize (rd_T56 l0 z).f0 = y at H aj ak al an ao
     generalize (rd_T56 l0 z).f1.f0 = J at H aj ak al an ao
     generalize (rd_T56 l0 z).f1.f1 = M at H aj ak al an ao
     generalize (rd_T56 l0 z).f2.f0 = L at H aj ak al an ao
     generalize (rd_T56 l0 z).f2.f1 = O at H aj ak al an ao
     go_wp2_with (first | ((with_reducible refine gd 7 rfl ?_); refine bx 7 (cs := #[.int .i64 0, .int .i64 0, .int .i64 0, .int .i64 0, .int .i64 0]) (t := 56) ?_; intro gn hg w5 hbox hb; have BN := am hbox; have GN := am ((by rw [hg]; exact (below_size (bs HB.out)) : w.heap.size ≤ gn)); replace HB := hs HB hb; have NE := am ((by rw [hg]; exact Nat.ne_of_lt (blk_lt (g := gb) (bf BK.out)) : gb ≠ gn)); replace BK := am (blk_below (g := gb) (bf BK.out) hb); clear hb hbox hg; have X : w5.cell? ⟨gn, 0, none⟩ = some (.int .i64 0) := (blk_cell BN.out 0).trans rfl; have Y : w5.cell? ⟨gn, 1, none⟩ = some (.int .i64 0) := (blk_cell BN.out 1).trans rfl; have Z : w5.cell? ⟨gn, 2, none⟩ = some (.int .i64 0) := (blk_cell BN.out 2).trans rfl; have aa : w5.cell? ⟨gn, 3, none⟩ = some (.int .i64 0) := (blk_cell BN.out 3).trans rfl; have ab : w5.cell? ⟨gn, 4, none⟩ = some (.int .i64 0) := (blk_cell BN.out 4).trans rfl; have aZ := blk_frozen BN.out 0; have a3 := blk_frozen BN.out 1; have a4 := blk_frozen BN.out 2; have a5 := blk_frozen BN.out 3; have a6 := blk_frozen BN.out 4))
     have D := am (blk_far (blk_far (blk_far (blk_far (blk_far (BK.out) (p := ⟨gn, 0, none⟩) NE.out (.int .i64 y)) (p := ⟨gn, 1, none⟩) NE.out (.int .i64 J)) (p := ⟨gn, 2, none⟩) NE.out (.int .i64 M)) (p := ⟨gn, 3, none⟩) NE.out (.int .i64 L)) (p := ⟨gn, 4, none⟩) NE.out (.int .i64 O))
     have G := am (blk_put (cs' := #[.int .i64 y, .int .i64 J, .int .i64 M, .int .i64 L, .int .i64 O]) (blk_put (cs' := #[.int .i64 y, .int .i64 J, .int .i64 M, .int .i64 L, .int .i64 0]) (blk_put (cs' := #[.int .i64 y, .int .i64 J, .int .i64 M, .int .i64 0, .int .i64 0]) (blk_put (cs' := #[.int .i64 y, .int .i64 J, .int .i64 0, .int .i64 0, .int .i64 0]) (blk_put (cs' := #[.int .i64 y, .int .i64 0, .int .i64 0, .int .i64 0, .int .i64 0]) (BN.out) 0 (.int .i64 y) rfl) 1 (.int .i64 J) rfl) 2 (.int .i64 M) rfl) 3 (.int .i64 L) rfl) 4 (.int .i64 O) rfl)
     have I := am (below_set (j := 4) (v := .int .i64 O) (below_set (j := 3) (v := .int .i64 L) (below_set (j := 2) (v := .int .i64 M) (below_set (j := 1) (v := .int .i64 J) (below_set (j := 0) (v := .int .i64 y) (HB.out) GN.out) GN.out) GN.out) GN.out) GN.out)
     clear BK BN HB X aZ Y a3 Z a4 aa a5 ab a6
     have BK := D
     have BN := G
     have HB := I
     clear D G I
     generalize (((((w5).setCell ⟨gn, 0, none⟩ (.int .i64 y)).setCell ⟨gn, 1, none⟩ (.int .i64 J)).setCell ⟨gn, 2, none⟩ (.int .i64 M)).setCell ⟨gn, 3, none⟩ (.int .i64 L)).setCell ⟨gn, 4, none⟩ (.int .i64 O) = w6 at BK BN HB ⊢
     refine (impl_EdgeOk.calls y J M L O (EOk y J M L O) _ rfl).mono ?_
     rintro e T ⟨rfl, hb⟩
     have D := am (blk_below BK.out hb)
     have G := am (blk_below BN.out hb)
     have I := am (below_step (bs HB.out) hb)
     clear BK BN HB hb
     have BK := D
     have BN := G
     have HB := I
     clear D G I
     have X : T.cell? ⟨gn, 0, none⟩ = some (.int .i64 y) := (blk_cell BN.out 0).trans rfl
     have Y : T.cell? ⟨gn, 1, none⟩ = some (.int .i64 J) := (blk_cell BN.out 1).trans rfl
     have Z : T.cell? ⟨gn, 2, none⟩ = some (.int .i64 M) := (blk_cell BN.out 2).trans rfl
     have aa : T.cell? ⟨gn, 3, none⟩ = some (.int .i64 L) := (blk_cell BN.out 3).trans rfl
     have ab : T.cell? ⟨gn, 4, none⟩ = some (.int .i64 O) := (blk_cell BN.out 4).trans rfl
     by_cases c3 : EOk y J M L O = true
     ·rw [if_pos c3] at H
      have HL := am (EOk_l c3)
      obtain ⟨j0, aE⟩ := Int.eq_ofNat_of_zero_le HL.out.1
      have aG : T.cell? ⟨gb, j0, none⟩ = some (.int .i64 (rd m y)) := by rw [aE]; exact (blk_cell BK.out j0).trans (cts_get m j0 (by have := HM.out; have := HL.out.2; omega))
      have htn : (y : Int).toNat = j0 := by omega
      have hcm : T.cell? ⟨gb, (y : Int).toNat, none⟩ = some (.int .i64 (rd m y)) := by rw [htn]; exact aG
      have hfm := blk_frozen BK.out (y : Int).toNat
      have hlo : (0 ≤ y) = True := eq_true HL.out.1
      have hhi : (y < 8) = True := eq_true (by have := HL.out.2; omega)
      have aH : (y : Int).toNat < 8 := by have := HL.out; omega
      clear aE aG htn j0
      by_cases c4 : rd m y = 7
      ·rw [if_pos c4] at H
       have a7 : (rd m y == 7) = true := beq_iff_eq.mpr c4
       clear c4
       obtain rfl := Option.some.inj H
       go_wp2
       go_ret
       exact ⟨eqs, bs HB.out⟩
      ·rw [if_neg c4] at H
       have a7 : (rd m y == 7) = false := beq_eq_false_iff_ne.mpr c4
       clear c4
       by_cases c5 : z > 0
       ·rw [if_pos c5] at H
        have a8 : decide (0 < z) = true := decide_eq_true c5
        have hwr : wrap64 (z - 1) = z - 1 := w64 (by have := CX.out; have := ay.out.2.1; omega)
        rw [hwr] at H
        rw [if_pos (show 0 ≤ z - 1 by omega), if_pos (show z - 1 < (l0.length : Int) by have := CX.out; omega)] at H
        obtain ⟨q, hq⟩ : ∃ q, z - 1 = q := ⟨_, rfl⟩
        have hqw : wrap64 (z - 1) = q := hwr.trans hq
        rw [hq] at H
        have p1 : 0 ≤ q := by omega
        have q1 : q < (l0.length : Int) := by have := CX.out; omega
        obtain ⟨ad', ea', ac, ae, af, ag, ah⟩ := at_T56 ay.out q p1 q1
        obtain rfl : ad = ad' := by injection ea'
        clear ea' hwr
        replace hq := am hq
        replace ac : T.cell? (ad.add (q.toNat * 5)) = some (.int .i64 (rd_T56 l0 q).f0) := cb HB ac
        replace ae : T.cell? ⟨(ad.add (q.toNat * 5)).block, (ad.add (q.toNat * 5)).off + 1, none⟩ = some (.int .i64 (rd_T56 l0 q).f1.f0) := cb HB ae
        replace af : T.cell? ⟨(ad.add (q.toNat * 5)).block, (ad.add (q.toNat * 5)).off + 2, none⟩ = some (.int .i64 (rd_T56 l0 q).f1.f1) := cb HB af
        replace ag : T.cell? ⟨(ad.add (q.toNat * 5)).block, (ad.add (q.toNat * 5)).off + 3, none⟩ = some (.int .i64 (rd_T56 l0 q).f2.f0) := cb HB ag
        replace ah : T.cell? ⟨(ad.add (q.toNat * 5)).block, (ad.add (q.toNat * 5)).off + 4, none⟩ = some (.int .i64 (rd_T56 l0 q).f2.f1) := cb HB ah
        replace p1 := eq_true p1
        replace q1 := eq_true q1
        generalize (rd_T56 l0 q).f0 = d0 at H ac ae af ag ah
        generalize (rd_T56 l0 q).f1.f0 = d1 at H ac ae af ag ah
        generalize (rd_T56 l0 q).f1.f1 = d2 at H ac ae af ag ah
        generalize (rd_T56 l0 q).f2.f0 = d3 at H ac ae af ag ah
        generalize (rd_T56 l0 q).f2.f1 = d4 at H ac ae af ag ah
        replace H := Option.bind_eq_some_iff.mp H
        obtain ⟨t, aI, H⟩ := H
        have A3 := am aI
        clear aI
        go_wp2
        refine wp_region_bel (by kernel_rfl) (by kernel_rfl) ?_
        clear X Y Z aa ab hcm hfm hlo hhi aH
        replace BK := bd BK
        replace BN := am (blk_drew BN.out)
        replace HB := hd HB
        replace ac : T.drew.cell? (ad.add (q.toNat * 5)) = some (.int .i64 d0) := ac
        replace ae : T.drew.cell? ⟨(ad.add (q.toNat * 5)).block, (ad.add (q.toNat * 5)).off + 1, none⟩ = some (.int .i64 d1) := ae
        replace af : T.drew.cell? ⟨(ad.add (q.toNat * 5)).block, (ad.add (q.toNat * 5)).off + 2, none⟩ = some (.int .i64 d2) := af
        replace ag : T.drew.cell? ⟨(ad.add (q.toNat * 5)).block, (ad.add (q.toNat * 5)).off + 3, none⟩ = some (.int .i64 d3) := ag
        replace ah : T.drew.cell? ⟨(ad.add (q.toNat * 5)).block, (ad.add (q.toNat * 5)).off + 4, none⟩ = some (.int .i64 d4) := ah
        generalize T.drew = w8 at BK BN HB ac ae af ag ah ⊢
        have aJ : ∀ p : Bel w8, p.v.cell? (ad.add (q.toNat * 5)) = some (.int .i64 d0) := fun p => cell_bel ac p
        have aK : ∀ p : Bel w8, p.v.cell? ⟨(ad.add (q.toNat * 5)).block, (ad.add (q.toNat * 5)).off + 1, none⟩ = some (.int .i64 d1) := fun p => cell_bel ae p
        have aM : ∀ p : Bel w8, p.v.cell? ⟨(ad.add (q.toNat * 5)).block, (ad.add (q.toNat * 5)).off + 2, none⟩ = some (.int .i64 d2) := fun p => cell_bel af p
        have aN : ∀ p : Bel w8, p.v.cell? ⟨(ad.add (q.toNat * 5)).block, (ad.add (q.toNat * 5)).off + 3, none⟩ = some (.int .i64 d3) := fun p => cell_bel ag p
        have aQ : ∀ p : Bel w8, p.v.cell? ⟨(ad.add (q.toNat * 5)).block, (ad.add (q.toNat * 5)).off + 4, none⟩ = some (.int .i64 d4) := fun p => cell_bel ah p
        clear ac ae af ag ah
        have aR : ∀ p : Bel w8, p.v.cell? ⟨gn, 0, none⟩ = some (.int .i64 y) := fun p => cell_bel ((blk_cell BN.out 0).trans rfl) p
        have aT : ∀ p : Bel w8, p.v.cell? ⟨gn, 1, none⟩ = some (.int .i64 J) := fun p => cell_bel ((blk_cell BN.out 1).trans rfl) p
        have aU : ∀ p : Bel w8, p.v.cell? ⟨gn, 2, none⟩ = some (.int .i64 M) := fun p => cell_bel ((blk_cell BN.out 2).trans rfl) p
        have aV : ∀ p : Bel w8, p.v.cell? ⟨gn, 3, none⟩ = some (.int .i64 L) := fun p => cell_bel ((blk_cell BN.out 3).trans rfl) p
        have aW : ∀ p : Bel w8, p.v.cell? ⟨gn, 4, none⟩ = some (.int .i64 O) := fun p => cell_bel ((blk_cell BN.out 4).trans rfl) p
        by_cases c6 : t ≥ 0
        ·rw [if_pos c6] at H
         have a9 : decide (0 ≤ t) = true := decide_eq_true c6
         clear c6
         repeat (go_big_quiet_step (with_reducible exact calls_bel (impl_edgeOrder.calls k1 d0 d1 d2 d3 d4 y J M L O t _ A3.out)))
         refine wpQuiet_nil ?_
         intro w9 hw'
         obtain ⟨⟨wq_, hb⟩, hw''⟩ := hw'
         subst hw''
         clear aJ aK aM aN aQ aR aT aU aV aW hqw
         have D := am (blk_below BK.out hb)
         have G := am (blk_below BN.out hb)
         have I := am (below_step (bs HB.out) hb)
         clear BK BN HB hb
         have BK := D
         have BN := G
         have HB := I
         clear D G I
         obtain rfl := Option.some.inj H
         go_wp2
         go_ret
         exact ⟨eqs, bs HB.out⟩
        ·rw [if_neg c6] at H
         have a9 : decide (0 ≤ t) = false := decide_eq_false c6
         clear c6
         repeat (go_big_quiet_step (with_reducible exact calls_bel (impl_edgeOrder.calls k1 d0 d1 d2 d3 d4 y J M L O t _ A3.out)))
         refine wpQuiet_nil ?_
         intro w9 hw'
         obtain ⟨⟨wq_, hb⟩, hw''⟩ := hw'
         subst hw''
         clear aJ aK aM aN aQ aR aT aU aV aW hqw
         have D := am (blk_below BK.out hb)
         have G := am (blk_below BN.out hb)
         have I := am (below_step (bs HB.out) hb)
         clear BK BN HB hb
         have BK := D
         have BN := G
         have HB := I
         clear D G I
         replace H := Option.bind_eq_some_iff.mp H
         obtain ⟨t1, aq, H⟩ := H
         have A1 := am aq
         clear aq
         have X : w9.cell? ⟨gn, 0, none⟩ = some (.int .i64 y) := (blk_cell BN.out 0).trans rfl
         have Y : w9.cell? ⟨gn, 1, none⟩ = some (.int .i64 J) := (blk_cell BN.out 1).trans rfl
         have Z : w9.cell? ⟨gn, 2, none⟩ = some (.int .i64 M) := (blk_cell BN.out 2).trans rfl
         have aa : w9.cell? ⟨gn, 3, none⟩ = some (.int .i64 L) := (blk_cell BN.out 3).trans rfl
         have ab : w9.cell? ⟨gn, 4, none⟩ = some (.int .i64 O) := (blk_cell BN.out 4).trans rfl
         go_wp2_with fail
         refine (impl_nodeThere.calls k1 _ _ l1 J M t1 _ ?ap aw.out A1.out).mono ?_
         case ap => exact Kd.C_below av.out (bs HB.out)
         rintro e ai ⟨rfl, hb⟩
         clear X Y Z aa ab
         have D := am (blk_below BK.out hb)
         have G := am (blk_below BN.out hb)
         have I := am (below_step (bs HB.out) hb)
         clear BK BN HB hb
         have BK := D
         have BN := G
         have HB := I
         clear D G I
         by_cases c7 : t1 = true
         ·subst c7
          replace H : ((impl_nodeThere.f k1 l1 L O).bind fun t2 => if t2 = true then impl_edgesOk.l0 k1 l0 l1 (m.set (y : Int).toNat (wrap64 (rd m y + 1))) (wrap64 (z + 1)) else some false) = some r := by rw [if_pos rfl] at H; exact H
          replace H := Option.bind_eq_some_iff.mp H
          obtain ⟨t2, ar, H⟩ := H
          have A2 := am ar
          clear ar
          have X : ai.cell? ⟨gn, 0, none⟩ = some (.int .i64 y) := (blk_cell BN.out 0).trans rfl
          have Y : ai.cell? ⟨gn, 1, none⟩ = some (.int .i64 J) := (blk_cell BN.out 1).trans rfl
          have Z : ai.cell? ⟨gn, 2, none⟩ = some (.int .i64 M) := (blk_cell BN.out 2).trans rfl
          have aa : ai.cell? ⟨gn, 3, none⟩ = some (.int .i64 L) := (blk_cell BN.out 3).trans rfl
          have ab : ai.cell? ⟨gn, 4, none⟩ = some (.int .i64 O) := (blk_cell BN.out 4).trans rfl
          go_wp2_with fail
          refine (impl_nodeThere.calls k1 _ _ l1 L O t2 _ ?ap aw.out A2.out).mono ?_
          case ap => exact Kd.C_below av.out (bs HB.out)
          rintro e au ⟨rfl, hb⟩
          clear X Y Z aa ab
          have D := am (blk_below BK.out hb)
          have G := am (blk_below BN.out hb)
          have I := am (below_step (bs HB.out) hb)
          clear BK BN HB hb
          have BK := D
          have BN := G
          have HB := I
          clear D G I
          by_cases c8 : t2 = true
          ·subst c8
           replace H : impl_edgesOk.l0 k1 l0 l1 (m.set (y : Int).toNat (wrap64 (rd m y + 1))) (wrap64 (z + 1)) = some r := by rw [if_pos rfl] at H; exact H
           have H' := am H
           clear H
           obtain ⟨j, rfl⟩ := Int.eq_ofNat_of_zero_le HL.out.1
           have X : au.cell? ⟨gn, 0, none⟩ = some (.int .i64 (j : Int)) := (blk_cell BN.out 0).trans rfl
           have ba : j < 8 := by have := HL.out.2; omega
           have hjm : j < m.length := by have := HM.out; omega
           have hcm : au.cell? ⟨gb, j, none⟩ = some (.int .i64 (rd m j)) := (blk_cell BK.out j).trans (cts_get m j hjm)
           have hfm := blk_frozen BK.out j
           have hlo : (0 ≤ (j : Int)) = True := eq_true (by omega)
           have hhi : ((j : Int) < 8) = True := eq_true (by omega)
           go_wp2
           go_roundg k1
           case measure => have := ax.out; omega
           case rel => exact ⟨wrap64 (z + 1), m.set j (wrap64 (rd m (j : Int) + 1)), eqs, ⟨by simpa using H'.out⟩, ⟨by simpa using HM.out⟩, ⟨by have := ax.out; omega⟩, ⟨by refine blk_put ?_ j _ (cts_set m j _); exact bf BK.out⟩, ⟨bs HB.out⟩⟩
          ·replace c8 := Bool.eq_false_iff.mpr c8
           subst c8
           replace H : some false = some r := by rw [if_neg (by decide)] at H; exact H
           obtain rfl := Option.some.inj H
           go_wp2
           go_ret
           exact ⟨eqs, bs HB.out⟩
         ·replace c7 := Bool.eq_false_iff.mpr c7
          subst c7
          replace H : some false = some r := by rw [if_neg (by decide)] at H; exact H
          obtain rfl := Option.some.inj H
          go_wp2
          go_ret
          exact ⟨eqs, bs HB.out⟩
       ·rw [if_neg c5] at H
        have a8 : decide (0 < z) = false := decide_eq_false c5
        clear c5
        go_wp2
        refine wp_region_bel (by kernel_rfl) (by kernel_rfl) ?_
        clear X Y Z aa ab hcm hfm hlo hhi aH
        replace BK := bd BK
        replace BN := am (blk_drew BN.out)
        replace HB := hd HB
        generalize T.drew = w8 at BK BN HB ⊢
        repeat (go_big_quiet_step (fail))
        refine wpQuiet_nil ?_
        intro w9 hw'
        obtain ⟨⟨wq_, hb⟩, hw''⟩ := hw'
        subst hw''
        have D := am (blk_below BK.out hb)
        have G := am (blk_below BN.out hb)
        have I := am (below_step (bs HB.out) hb)
        clear BK BN HB hb
        have BK := D
        have BN := G
        have HB := I
        clear D G I
        replace H := Option.bind_eq_some_iff.mp H
        obtain ⟨t1, aq, H⟩ := H
        have A1 := am aq
        clear aq
        have X : w9.cell? ⟨gn, 0, none⟩ = some (.int .i64 y) := (blk_cell BN.out 0).trans rfl
        have Y : w9.cell? ⟨gn, 1, none⟩ = some (.int .i64 J) := (blk_cell BN.out 1).trans rfl
        have Z : w9.cell? ⟨gn, 2, none⟩ = some (.int .i64 M) := (blk_cell BN.out 2).trans rfl
        have aa : w9.cell? ⟨gn, 3, none⟩ = some (.int .i64 L) := (blk_cell BN.out 3).trans rfl
        have ab : w9.cell? ⟨gn, 4, none⟩ = some (.int .i64 O) := (blk_cell BN.out 4).trans rfl
        go_wp2_with fail
        refine (impl_nodeThere.calls k1 _ _ l1 J M t1 _ ?ap aw.out A1.out).mono ?_
        case ap => exact Kd.C_below av.out (bs HB.out)
        rintro e ai ⟨rfl, hb⟩
        clear X Y Z aa ab
        have D := am (blk_below BK.out hb)
        have G := am (blk_below BN.out hb)
        have I := am (below_step (bs HB.out) hb)
        clear BK BN HB hb
        have BK := D
        have BN := G
        have HB := I
        clear D G I
        by_cases c7 : t1 = true
        ·subst c7
         replace H : ((impl_nodeThere.f k1 l1 L O).bind fun t2 => if t2 = true then impl_edgesOk.l0 k1 l0 l1 (m.set (y : Int).toNat (wrap64 (rd m y + 1))) (wrap64 (z + 1)) else some false) = some r := by rw [if_pos rfl] at H; exact H
         replace H := Option.bind_eq_some_iff.mp H
         obtain ⟨t2, ar, H⟩ := H
         have A2 := am ar
         clear ar
         have X : ai.cell? ⟨gn, 0, none⟩ = some (.int .i64 y) := (blk_cell BN.out 0).trans rfl
         have Y : ai.cell? ⟨gn, 1, none⟩ = some (.int .i64 J) := (blk_cell BN.out 1).trans rfl
         have Z : ai.cell? ⟨gn, 2, none⟩ = some (.int .i64 M) := (blk_cell BN.out 2).trans rfl
         have aa : ai.cell? ⟨gn, 3, none⟩ = some (.int .i64 L) := (blk_cell BN.out 3).trans rfl
         have ab : ai.cell? ⟨gn, 4, none⟩ = some (.int .i64 O) := (blk_cell BN.out 4).trans rfl
         go_wp2_with fail
         refine (impl_nodeThere.calls k1 _ _ l1 L O t2 _ ?ap aw.out A2.out).mono ?_
         case ap => exact Kd.C_below av.out (bs HB.out)
         rintro e au ⟨rfl, hb⟩
         clear X Y Z aa ab
         have D := am (blk_below BK.out hb)
         have G := am (blk_below BN.out hb)
         have I := am (below_step (bs HB.out) hb)
         clear BK BN HB hb
         have BK := D
         have BN := G
         have HB := I
         clear D G I
         by_cases c8 : t2 = true
         ·subst c8
          replace H : impl_edgesOk.l0 k1 l0 l1 (m.set (y : Int).toNat (wrap64 (rd m y + 1))) (wrap64 (z + 1)) = some r := by rw [if_pos rfl] at H; exact H
          have H' := am H
          clear H
          obtain ⟨j, rfl⟩ := Int.eq_ofNat_of_zero_le HL.out.1
          have X : au.cell? ⟨gn, 0, none⟩ = some (.int .i64 (j : Int)) := (blk_cell BN.out 0).trans rfl
          have ba : j < 8 := by have := HL.out.2; omega
          have hjm : j < m.length := by have := HM.out; omega
          have hcm : au.cell? ⟨gb, j, none⟩ = some (.int .i64 (rd m j)) := (blk_cell BK.out j).trans (cts_get m j hjm)
          have hfm := blk_frozen BK.out j
          have hlo : (0 ≤ (j : Int)) = True := eq_true (by omega)
          have hhi : ((j : Int) < 8) = True := eq_true (by omega)
          go_wp2
          go_roundg k1
          case measure => have := ax.out; omega
          case rel => exact ⟨wrap64 (z + 1), m.set j (wrap64 (rd m (j : Int) + 1)), eqs, ⟨by simpa using H'.out⟩, ⟨by simpa using HM.out⟩, ⟨by have := ax.out; omega⟩, ⟨by refine blk_put ?_ j _ (cts_set m j _); exact bf BK.out⟩, ⟨bs HB.out⟩⟩
         ·replace c8 := Bool.eq_false_iff.mpr c8
          subst c8
          replace H : some false = some r := by rw [if_neg (by decide)] at H; exact H
          obtain rfl := Option.some.inj H
          go_wp2
          go_ret
          exact ⟨eqs, bs HB.out⟩
        ·replace c7 := Bool.eq_false_iff.mpr c7
         subst c7
         replace H : some false = some r := by rw [if_neg (by decide)] at H; exact H
         obtain rfl := Option.some.inj H
         go_wp2
         go_ret
         exact ⟨eqs, bs HB.out⟩
     ·rw [if_neg c3] at H
      replace c3 := Bool.eq_false_iff.mpr c3
      obtain rfl := Option.some.inj H
      rw [c3]
      go_wp2
      go_ret
      exact ⟨eqs, bs HB.out⟩
    ·rw [if_neg c2] at H; cases H
   ·rw [if_neg c1] at H
    have aY : decide (z < (l0.length : Int)) = false := decide_eq_false c1
    clear c1
    obtain rfl := Option.some.inj H
    go_wp2
    go_ret
    exact ⟨eqs, bs HB.out⟩

/-! ### impl_GraphOk: function 34 -/
def impl_GraphOk.f (k : Nat) (s : List (S36)) (y : List (S56)) : Option (Bool) := (impl_nodesOk.f k s).bind fun z => (if z = true then ((impl_edgesOk.f k y s).bind fun D => (some D)) else (some false))
theorem impl_GraphOk.calls (k : Nat) (D : Option Addr) (G : Nat) (s : List (S36)) (L : Option Addr) (M : Nat) (z : List (S56)) (r : Bool) (w : World) (Z : Kd.C k36 w D s.length s) (aa : s.length ≤ G) (ab : Kd.C k56 w L z.length z) (ac : z.length ≤ M) (h : impl_GraphOk.f k s z = some r) :
  Calls Try.prog 34 #[.agg #[.slice D s.length G, .slice L z.length M]] w fun e w' => e = .returned (.bool r) ∧ Below w.heap.size w w' := by
 have hu34 := Try.underlying34
 have T := am Z
 have X := am aa
 clear Z aa
 have ag := am ab
 have ah := am ac
 clear ab ac
 have HB := am (Below.refl w.heap.size w)
 have H := h; unfold impl_GraphOk.f at H
 clear h
 replace H := Option.bind_eq_some_iff.mp H
 obtain ⟨ai, ae, H⟩ := H
 try dsimp -simprocs only at H
 have A2 := am ae
 clear ae
 by_cases O : ai = true
 ·subst O
  replace H : ((impl_edgesOk.f k z s).bind fun Y => (some Y)) = some r := by rw [if_pos rfl] at H; exact H
  replace H := Option.bind_eq_some_iff.mp H
  obtain ⟨Y, af, H⟩ := H
  try dsimp -simprocs only at H
  have A4 := am af
  clear af
  obtain rfl := Option.some.inj H
  go_enter Try.func34, Try.ntmps34
  go_wp2_with (first | ((with_reducible refine gd 1 rfl ?_); refine bx 1 (cs := #[.slice D s.length G, .slice L z.length M]) (t := 34) ?_; intro aj hg w5 hbox hb; have y := am hbox; have ak := gwb HB hg; replace HB := hs HB hb; clear hb hbox hg; obtain ⟨ap, aq⟩ := bc2 (w := w5) y.out; have ar := blk_frozen y.out) | ((with_reducible refine gc 81 rfl ?_); refine gl 5 Try.func81 #[.slice D s.length G] ?_; (with_reducible refine (impl_nodesOk.calls k _ _ s true _ ?I ?J A2.out).mono ?_); (case I => exact Kd.C_below T.out (bs HB.out)); (case J => exact X.out); rintro e w7 ⟨rfl, hb⟩; refine ⟨_, rfl, ?_⟩; replace y := bb y hb rfl; replace HB := hs HB hb; (try clear hb); obtain ⟨au, av⟩ := bc2 (w := w7) y.out; have aw := blk_frozen y.out) | (go_at_call 82; (with_reducible refine (impl_edgesOk.calls k _ _ z _ _ s Y _ ?I ?J ?al ?an A4.out).mono ?_); (case I => exact Kd.C_below ag.out (bs HB.out)); (case J => exact ah.out); (case al => exact Kd.C_below T.out (bs HB.out)); (case an => exact X.out); rintro e w9 ⟨rfl, hb⟩; replace y := bb y hb rfl; replace HB := hs HB hb; (try clear hb)))
  go_ret
  exact ⟨eqr, bs HB.out⟩
 ·replace O := Bool.eq_false_iff.mpr O
  subst O
  have H1 : (some false) = some r := by rw [if_neg (show ¬ (false = true) by decide)] at H; exact H
  clear H
  have H := H1
  clear H1
  obtain rfl := Option.some.inj H
  go_enter Try.func34, Try.ntmps34
  go_wp2_with (first | ((with_reducible refine gd 1 rfl ?_); refine bx 1 (cs := #[.slice D s.length G, .slice L z.length M]) (t := 34) ?_; intro aj hg ao hbox hb; have y := am hbox; have ak := gwb HB hg; replace HB := hs HB hb; clear hb hbox hg; obtain ⟨ax, ay⟩ := bc2 (w := ao) y.out; have az := blk_frozen y.out) | ((with_reducible refine gc 81 rfl ?_); refine gl 5 Try.func81 #[.slice D s.length G] ?_; (with_reducible refine (impl_nodesOk.calls k _ _ s false _ ?I ?J A2.out).mono ?_); (case I => exact Kd.C_below T.out (bs HB.out)); (case J => exact X.out); rintro e aA ⟨rfl, hb⟩; refine ⟨_, rfl, ?_⟩; replace y := bb y hb rfl; replace HB := hs HB hb; (try clear hb)))
  go_ret
  exact ⟨eqr, bs HB.out⟩

/-! ### impl_GraphView: function 36 -/
mutual
def impl_GraphView.l0 : Nat → Int → List (S36) → Int → Int → List (S36) → List (S56) → List (S36) → Option ((List (S36)) × (List (S56)))
 | 0, _, _, _, _, _, _, _ => none
 | k + 1, z, y, I, s, J, D, G => if s < I then (if 0 ≤ s then (if s < (y.length : Int) then ((impl_LabelUnder.f ((rd_T36 y s).f0) z).bind fun L => (if L = true then (if G.length < 8796093022208 then (impl_GraphView.l0 k z y I (wrap64 (s + 1)) J D (G ++ [(⟨(rd_T36 y s).f0, (rd_T36 y s).f1⟩ : S36)])) else (none)) else (impl_GraphView.l0 k z y I (wrap64 (s + 1)) J D G))) else (none)) else (none)) else (impl_GraphView.l1 k z D (D.length : Int) 0 G ([] : List (S56)))
def impl_GraphView.l1 : Nat → Int → List (S56) → Int → Int → List (S36) → List (S56) → Option ((List (S36)) × (List (S56)))
 | 0, _, _, _, _, _, _ => none
 | k + 1, D, y, G, s, I, z => if s < G then (if 0 ≤ s then (if s < (y.length : Int) then ((impl_LabelUnder.f ((rd_T56 y s).f0) D).bind fun J => (if J = true then (if z.length < 3518437208883 then (impl_GraphView.l1 k D y G (wrap64 (s + 1)) I (z ++ [(⟨(rd_T56 y s).f0, (⟨(rd_T56 y s).f1.f0, (rd_T56 y s).f1.f1⟩ : S36), (⟨(rd_T56 y s).f2.f0, (rd_T56 y s).f2.f1⟩ : S36)⟩ : S56)])) else (none)) else (impl_GraphView.l1 k D y G (wrap64 (s + 1)) I z))) else (none)) else (none)) else (some (I, z))
end
def impl_GraphView.f (k : Nat) (s : List (S36)) (y : List (S56)) (z : Int) : Option ((List (S36)) × (List (S56))) := (impl_GraphOk.f k s y).bind fun D => (if D = true then (impl_GraphView.l0 k z s (s.length : Int) 0 s y ([] : List (S36))) else (some (([] : List (S36)), ([] : List (S56)))))
theorem impl_GraphView.calls (k : Nat) (af : Option Addr) (ag : Nat) (D : List (S36)) (ah : Option Addr) (ai : Nat) (s : List (S56)) (T : Int) (Z : List (S36)) (r2 : List (S56)) (w : World) (bz : Kd.C k36 w af D.length D) (bA : D.length ≤ ag) (bB : Kd.C k56 w ah s.length s) (bC : s.length ≤ ai) (h : impl_GraphView.f k D s T = some (Z, r2)) :
  Calls Try.prog 36 #[.agg #[.slice af D.length ag, .slice ah s.length ai], .int .i64 T] w fun e w' => ∃ bD bE : Value, e = .returned (.agg #[bD, bE]) ∧ Kd.R k36 36 w' w.heap.size (fun _ => True) bD Z ∧ Kd.R k56 56 w' w.heap.size (fun _ => True) bE r2 ∧ Below w.heap.size w w' := by
 have hu34 := Try.underlying34
 have hu36 := Try.underlying36
 have hu56 := Try.underlying56
 have aT := am bz
 have bF := am bA
 clear bz bA
 have aU := am bB
 have bG := am bC
 clear bB bC
 have HB := am (Below.refl w.heap.size w)
 have H := h; unfold impl_GraphView.f at H
 clear h
 replace H := Option.bind_eq_some_iff.mp H
 obtain ⟨bY, bH, H⟩ := H
 try dsimp -simprocs only at H
 have A3 := am bH
 clear bH
 by_cases c4 : bY = true
 ·subst c4
  replace H : (impl_GraphView.l0 k T D (D.length : Int) 0 D s ([] : List (S36))) = some (Z, r2) := by rw [if_pos rfl] at H; exact H
  have H' := am H
  clear H
  go_enter Try.func36, Try.ntmps36
  go_wp2_with (first | ((with_reducible refine gd 2 rfl ?_); refine bx 2 (cs := #[.slice af D.length ag, .slice ah s.length ai]) (t := 34) ?_; intro a3 hg w5 hbox hb; have G := am hbox; have bZ := gwb HB hg; replace HB := hs HB hb; clear hb hbox hg) | ((with_reducible refine gd 4 rfl ?_); refine bx 4 (cs := #[.slice none 0 0, .slice none 0 0]) (t := 34) ?_; intro az hg w6 hbox hb; have I := am hbox; have b0 := gwb HB hg; replace HB := hs HB hb; have aA := nq G hg; have aC := nq' G hg; replace G := bb G hb rfl; clear hb hbox hg) | ((with_reducible refine gd 5 rfl ?_); refine bx 5 (cs := #[.slice none 0 0, .slice none 0 0]) (t := 34) ?_; intro a4 hg w7 hbox hb; have J := am hbox; have b1 := gwb HB hg; replace HB := hs HB hb; have ao := nq G hg; have ap := nq' G hg; replace G := bb G hb rfl; have aD := nq I hg; have aE := nq' I hg; replace I := bb I hb rfl; clear hb hbox hg; have cX := aA.out; have cY := aC.out; have cZ := ao.out; have da := ap.out; obtain ⟨bI, bJ⟩ := bc2 (w := w7) G.out; have bK := blk_frozen G.out) | ((with_reducible refine gc 34 rfl ?_); refine gl 11 Try.func34 #[.agg #[.slice af D.length ag, .slice ah s.length ai]] ?_; (with_reducible refine (impl_GraphOk.calls k _ _ D _ _ s true _ ?a5 ?a6 ?a7 ?a8 A3.out).mono ?_); (case a5 => exact Kd.C_below aT.out (bs HB.out)); (case a6 => exact bF.out); (case a7 => exact Kd.C_below aU.out (bs HB.out)); (case a8 => exact bG.out); rintro e b2 ⟨rfl, hb⟩; refine ⟨_, rfl, ?_⟩; replace G := bb G hb rfl; replace I := bb I hb rfl; replace J := bb J hb rfl; replace HB := hs HB hb; (try clear hb); obtain ⟨bL, bM⟩ := bc2 (w := b2) G.out; have bN := blk_frozen G.out))
  go_loopg [17] k (fun kq b3 w' => ∃ (L : Int) (X : List (S36)) (ae : Value), b3 = .int .i64 L ∧ Aside0 (impl_GraphView.l0 kq T D (D.length : Int) L D s X = some (Z, r2)) ∧ Aside0 (kq ≤ k) ∧ Aside0 (Kd.R k36 36 w' w.heap.size (fun _ => True) ae X) ∧ Aside0 (w'.heap[a3]? = some (.cells #[(.slice af D.length ag), (.slice ah s.length ai)] 34 (0, 0))) ∧ Aside0 (w'.heap[az]? = some (.cells #[(.slice none 0 0), (.slice none 0 0)] 34 (0, 0))) ∧ Aside0 (w'.heap[a4]? = some (.cells #[ae, (.slice none 0 0)] 34 (0, 0))) ∧ Aside0 (Below w.heap.size w w'))
  case atStart => exact ⟨(0), (([] : List (S36))), (.slice none 0 0), eqs, H', ⟨Nat.le_refl _⟩, ⟨by first | exact Kd.R_nil _ _ _ _ _ | exact Kd.N_nil _ _ _ _ _ | exact Kd.V_nil _ _ _ _ _ | exact Kd.Q_nil _ _ _ _ _ | exact Kd.S_nil _ _ _ _ _⟩, ⟨bf G.out⟩, ⟨bf I.out⟩, ⟨bf J.out⟩, ⟨bs HB.out⟩⟩
  case round =>
   clear H'
   try clear p2
   try clear c3
   try clear c4
   try clear c8
   try clear c9
   try clear bI bJ
   try clear bL bM
   try clear bK
   try clear bN
   obtain ⟨L, X, ae, rfl, HA, aj, O, G, I, J, HB⟩ := hrel
   cases gk with
   | zero => exact absurd HA.out (by simp [impl_GraphView.l0])
   | succ k1 =>
    have H := HA.out
    clear HA
    simp only [impl_GraphView.l0] at H
    by_cases aq : L < (D.length : Int)
    ·rw [if_pos aq] at H
     have bO : decide (L < (D.length : Int)) = true := decide_eq_true aq
     clear aq
     by_cases aG : 0 ≤ L
     ·rw [if_pos aG] at H
      have b4 : decide (0 ≤ L) = true := decide_eq_true aG
      clear aG
      by_cases aH : L < (D.length : Int)
      ·rw [if_pos aH] at H
       have b5 : decide (L < (D.length : Int)) = true := decide_eq_true aH
       clear aH
       replace H := Option.bind_eq_some_iff.mp H
       obtain ⟨b6, bP, H⟩ := H
       try dsimp -simprocs only at H
       have bQ := am bP
       clear bP
       by_cases aI : b6 = true
       ·subst aI
        replace H : (if X.length < 8796093022208 then (impl_GraphView.l0 k1 T D (D.length : Int) (wrap64 (L + 1)) D s (X ++ [(⟨(rd_T36 D L).f0, (rd_T36 D L).f1⟩ : S36)])) else (none)) = some (Z, r2) := by rw [if_pos rfl] at H; exact H
        by_cases aJ : X.length < 8796093022208
        ·rw [if_pos aJ] at H
         have b7 := am aJ
         clear aJ
         obtain ⟨a9, ba⟩ : ∃ y_ : List (S36), y_ = (X ++ [(⟨(rd_T36 D L).f0, (rd_T36 D L).f1⟩ : S36)]) := ⟨_, rfl⟩
         replace H : (impl_GraphView.l0 k1 T D (D.length : Int) (wrap64 (L + 1)) D s a9) = some (Z, r2) := by first | (rw [ba]; exact H) | exact H
         have b8 := am ba
         clear ba
         have H' := am H
         clear H
         have ak : 0 ≤ (L : Int) := oda
         have al : L < (D.length : Int) := oda
         obtain ⟨b9, bc, av, aw⟩ := at_T36 aT.out L ak al
         cases bc
         replace av := cb HB av
         replace aw := cb HB aw
         replace ak := eq_true ak
         replace al := eq_true al
         go_wp2_with (first | ((with_reducible refine gd 7 rfl ?_); refine bx 7 (cs := #[.int .i64 0, .int .i64 0]) (t := 36) ?_; intro aa hg bR hbox hb; replace O := am (Kd.R_below (Kd.R_elderB (rl O.out) aa (Nat.le_of_eq hg.symm)) hb); have an := am hbox; have ce := gwb HB hg; replace HB := hs HB hb; have be := nq G hg; have bg := nq' G hg; replace G := bb G hb rfl; have bh := nq I hg; have bi := nq' I hg; replace I := bb I hb rfl; have bj := nq J hg; have bk := nq' J hg; replace J := bb J hb rfl; clear hb hbox hg; have db := bg.out; have dc := be.out; have dd := bi.out; have de := bh.out; have df := bk.out; have dg := bj.out; obtain ⟨cf, cg⟩ := bc2 (w := bR) an.out; have ch := blk_frozen an.out) | ((with_reducible refine gc 47 rfl ?_); refine gl 24 Try.func47 #[.int .i64 ((rd_T36 D L).f0), .int .i64 T] ?_; (with_reducible refine (impl_LabelUnder.calls ((rd_T36 D L).f0) T true _ bQ.out).mono ?_); rintro e w' ⟨rfl, ⟨nd, rfl⟩⟩; refine ⟨_, rfl, ?_⟩; have dh := ap.out; have di := ao.out; have dj := aE.out; have dk := aD.out; obtain ⟨ci, cj⟩ := bc2 (w := bR) J.out; have ck := blk_frozen J.out) | ((with_reducible refine gate_builtin (b := .append) (xs := #[.tmp 26, .tmp 28]) rfl ?_); at_builtin; refine Kd.R_append k36 (w0 := w) w.heap.size rfl (.tmp 26) (.tmp 28) 29 36 (.agg #[(.int .i64 0), (.int .i64 0)]) 16 rfl Try.underlying29 info36 rfl (by decide) (by omega) ae X (⟨(rd_T36 D L).f0, (rd_T36 D L).f1⟩ : S36) [.int .i64 ((rd_T36 D L).f0), .int .i64 ((rd_T36 D L).f1)] (fun k_ => k_ ≠ aa) (fun _ => False) rfl (by first | (go_simp; done) | (go_simp; rfl)) ?aP (fun _ hk => hk.elim) ?aF ?aO ?aB ?aS ?aL ?_; (case aP => exact k36_mkM _ _ _ (⟨(rd_T36 D L).f0, (rd_T36 D L).f1⟩ : S36)); (case aB => exact (bs HB.out)); (case aF => exact (fun k_ hk => Kd.freshB (g := aa) (o := .cells #[.int .i64 ((rd_T36 D L).f0), .int .i64 ((rd_T36 D L).f1)] 36 (0, 0)) (bp an.out rfl) k_ hk)); (case aO => exact (by (with_reducible repeat (first | apply Kd.R_alloc | apply Kd.R_drewN | apply Kd.R_drew)); exact Kd.R_mono (Kd.R_far (p := ⟨aa, 1, none⟩) (Kd.R_far (p := ⟨aa, 0, none⟩) (Kd.R_mono O.out (fun k_ hk => (⟨hk, hk.2⟩ : _ ∧ k_ ≠ aa))) (fun _ hk => hk.2) (.int .i64 ((rd_T36 D L).f0))) (fun _ hk => hk.2) (.int .i64 ((rd_T36 D L).f1))) (fun _ hk => hk.1.2))); (case aS => exact (below_size (bs HB.out))); (case aL => have := b7.out; omega); intro dl cl ho hb hg hat; rw [← b8.out] at ho; replace G := gr G O hg; replace I := gr I O hg; replace J := gr J O hg; replace an := am (blk_grown (g := aa) (o := .cells #[.int .i64 ((rd_T36 D L).f0), .int .i64 ((rd_T36 D L).f1)] 36 (0, 0)) (bp an.out rfl) hg (Kd.R_away O.out (fun _ hk => hk.2))); replace HB := am hb; have bS := am ho; clear O; clear ho hb hg hat; obtain ⟨cm, cn, co⟩ := Kd.R_slice bS.out; subst co; obtain ⟨cp, ct⟩ := bc2 (w := cl) J.out; have cu := blk_frozen J.out))
         go_roundg k1
         case measure => have := aj.out; omega
         case rel => exact ⟨(wrap64 (L + 1)), (a9), (.slice cm a9.length cn), eqs, H', ⟨by have := aj.out; omega⟩, ⟨Kd.R_mono (rt bS.out J.out (by decide)) (fun _ hk => trivial)⟩, ⟨bf G.out⟩, ⟨bf I.out⟩, ⟨by (with_reducible repeat (first | refine blk_drewN ?_ _ | refine blk_drew ?_ | refine blk_alloc ?_ _)); refine blk_put (cs := #[ae, .slice none 0 0]) ?_ 0 _ rfl; exact bf J.out⟩, ⟨bs HB.out⟩⟩
        ·rw [if_neg aJ] at H
         exact absurd H (by simp)
       ·replace aI := Bool.eq_false_iff.mpr aI
        subst aI
        have H1 : (impl_GraphView.l0 k1 T D (D.length : Int) (wrap64 (L + 1)) D s X) = some (Z, r2) := by rw [if_neg (show ¬ (false = true) by decide)] at H; exact H
        clear H
        have H := H1
        clear H1
        have H' := am H
        clear H
        have ak : 0 ≤ (L : Int) := oda
        have al : L < (D.length : Int) := oda
        obtain ⟨b9, bc, av, aw⟩ := at_T36 aT.out L ak al
        cases bc
        replace av := cb HB av
        replace aw := cb HB aw
        replace ak := eq_true ak
        replace al := eq_true al
        go_wp2_with (first | ((with_reducible refine gd 7 rfl ?_); refine bx 7 (cs := #[.int .i64 0, .int .i64 0]) (t := 36) ?_; intro aa hg cv hbox hb; replace O := am (Kd.R_below (Kd.R_elderB (rl O.out) aa (Nat.le_of_eq hg.symm)) hb); have an := am hbox; have ce := gwb HB hg; replace HB := hs HB hb; have be := nq G hg; have bg := nq' G hg; replace G := bb G hb rfl; have bh := nq I hg; have bi := nq' I hg; replace I := bb I hb rfl; have bj := nq J hg; have bk := nq' J hg; replace J := bb J hb rfl; clear hb hbox hg; have dm := bg.out; have dp := be.out; have dq := bi.out; have dr := bh.out; have dt := bk.out; have du := bj.out; obtain ⟨cy, cz⟩ := bc2 (w := cv) an.out; have cA := blk_frozen an.out) | ((with_reducible refine gc 47 rfl ?_); refine gl 24 Try.func47 #[.int .i64 ((rd_T36 D L).f0), .int .i64 T] ?_; (with_reducible refine (impl_LabelUnder.calls ((rd_T36 D L).f0) T false _ bQ.out).mono ?_); rintro e w' ⟨rfl, ⟨nd, rfl⟩⟩; refine ⟨_, rfl, ?_⟩))
        go_roundg k1
        case measure => have := aj.out; omega
        case rel => exact ⟨(wrap64 (L + 1)), (X), (ae), eqs, H', ⟨by have := aj.out; omega⟩, ⟨by (with_reducible repeat (first | apply Kd.R_alloc | apply Kd.R_drewN | apply Kd.R_drew)); exact Kd.R_mono (Kd.R_far (p := ⟨aa, 1, none⟩) (Kd.R_far (p := ⟨aa, 0, none⟩) (Kd.R_mono O.out (fun k_ hk => (⟨hk, hk.2⟩ : _ ∧ k_ ≠ aa))) (fun _ hk => hk.2) (.int .i64 ((rd_T36 D L).f0))) (fun _ hk => hk.2) (.int .i64 ((rd_T36 D L).f1))) (fun _ hk => trivial)⟩, ⟨bf G.out⟩, ⟨bf I.out⟩, ⟨bf J.out⟩, ⟨bs HB.out⟩⟩
      ·rw [if_neg aH] at H
       exact absurd H (by simp)
     ·rw [if_neg aG] at H
      exact absurd H (by simp)
    ·rw [if_neg aq] at H
     have bO : decide (L < (D.length : Int)) = false := decide_eq_false aq
     clear aq
     have H' := am H
     clear H
     have dv := aA.out
     have dw := aC.out
     have dx := ao.out
     have dy := ap.out
     obtain ⟨cB, cC⟩ := bc2 (w := wr) G.out
     have cD := blk_frozen G.out
     go_wp2
     go_loopg [35] k1 (fun kq cE w' => ∃ (y : Int) (ab : List (S56)) (ax : Value), cE = .int .i64 y ∧ Aside0 (impl_GraphView.l1 kq T s (s.length : Int) y X ab = some (Z, r2)) ∧ Aside0 (kq ≤ k1) ∧ Aside0 (Kd.R k36 36 w' w.heap.size (fun _ => True) ae X) ∧ Aside0 (Kd.R k56 56 w' w.heap.size (fun _ => True) ax ab) ∧ Aside0 (w'.heap[a3]? = some (.cells #[(.slice af D.length ag), (.slice ah s.length ai)] 34 (0, 0))) ∧ Aside0 (w'.heap[az]? = some (.cells #[(.slice none 0 0), (.slice none 0 0)] 34 (0, 0))) ∧ Aside0 (w'.heap[a4]? = some (.cells #[ae, ax] 34 (0, 0))) ∧ Aside0 (Below w.heap.size w w'))
     case atStart => exact ⟨(0), (([] : List (S56))), (.slice none 0 0), eqs, H', ⟨Nat.le_refl _⟩, ⟨rl O.out⟩, ⟨by first | exact Kd.R_nil _ _ _ _ _ | exact Kd.N_nil _ _ _ _ _ | exact Kd.V_nil _ _ _ _ _ | exact Kd.Q_nil _ _ _ _ _ | exact Kd.S_nil _ _ _ _ _⟩, ⟨bf G.out⟩, ⟨bf I.out⟩, ⟨bf J.out⟩, ⟨bs HB.out⟩⟩
     case round =>
      clear H'
      try clear c1
      try clear p1
      try clear q1
      try clear dz
      try clear c2
      try clear p2
      try clear c3
      try clear c4
      try clear p6
      try clear c8
      try clear c9
      try clear aq
      try clear bO
      try clear aG
      try clear b4
      try clear aH
      try clear b5
      try clear aI
      try clear aJ
      try clear dA
      try clear dB
      try clear dC
      try clear dD
      try clear dE
      try clear dF
      try clear dG
      try clear dH
      try clear dI
      try clear dJ
      try clear dK
      try clear dL
      try clear dM
      try clear dN
      try clear bI bJ
      try clear bL bM
      try clear cf cg
      try clear ci cj
      try clear cp ct
      try clear cy cz
      try clear cB cC
      try clear bK
      try clear bN
      try clear ch
      try clear ck
      try clear cu
      try clear cA
      try clear cD
      try clear av
      try clear aw
      try clear ak
      try clear p2
      try clear al
      obtain ⟨y, ab, ax, rfl, HA, aV, O, Y, G, I, J, HB⟩ := hrel
      cases gk with
      | zero => exact absurd HA.out (by simp [impl_GraphView.l1])
      | succ k2 =>
       have H := HA.out
       clear HA
       simp only [impl_GraphView.l1] at H
       by_cases ay : y < (s.length : Int)
       ·rw [if_pos ay] at H
        have cF : decide (y < (s.length : Int)) = true := decide_eq_true ay
        clear ay
        by_cases aW : 0 ≤ y
        ·rw [if_pos aW] at H
         have dO : decide (0 ≤ y) = true := decide_eq_true aW
         clear aW
         by_cases aX : y < (s.length : Int)
         ·rw [if_pos aX] at H
          have dP : decide (y < (s.length : Int)) = true := decide_eq_true aX
          clear aX
          replace H := Option.bind_eq_some_iff.mp H
          obtain ⟨cG, bT, H⟩ := H
          try dsimp -simprocs only at H
          have bU := am bT
          clear bT
          by_cases aY : cG = true
          ·subst aY
           replace H : (if ab.length < 3518437208883 then (impl_GraphView.l1 k2 T s (s.length : Int) (wrap64 (y + 1)) X (ab ++ [(⟨(rd_T56 s y).f0, (⟨(rd_T56 s y).f1.f0, (rd_T56 s y).f1.f1⟩ : S36), (⟨(rd_T56 s y).f2.f0, (rd_T56 s y).f2.f1⟩ : S36)⟩ : S56)])) else (none)) = some (Z, r2) := by rw [if_pos rfl] at H; exact H
           by_cases aZ : ab.length < 3518437208883
           ·rw [if_pos aZ] at H
            have cH := am aZ
            clear aZ
            obtain ⟨bl, bm⟩ : ∃ y_ : List (S56), y_ = (ab ++ [(⟨(rd_T56 s y).f0, (⟨(rd_T56 s y).f1.f0, (rd_T56 s y).f1.f1⟩ : S36), (⟨(rd_T56 s y).f2.f0, (rd_T56 s y).f2.f1⟩ : S36)⟩ : S56)]) := ⟨_, rfl⟩
            replace H : (impl_GraphView.l1 k2 T s (s.length : Int) (wrap64 (y + 1)) X bl) = some (Z, r2) := by first | (rw [bm]; exact H) | exact H
            have cI := am bm
            clear bm
            have H' := am H
            clear H
            have ar : 0 ≤ (y : Int) := oda
            have au : y < (s.length : Int) := oda
            obtain ⟨cJ, bn, aK, aM, aN, aQ, aR⟩ := at_T56 aU.out y ar au
            cases bn
            replace aK := cb HB aK
            replace aM := cb HB aM
            replace aN := cb HB aN
            replace aQ := cb HB aQ
            replace aR := cb HB aR
            replace ar := eq_true ar
            replace au := eq_true au
            go_wp2_with (first | ((with_reducible refine gd 9 rfl ?_); refine bx 9 (cs := #[.int .i64 0, .int .i64 0, .int .i64 0, .int .i64 0, .int .i64 0]) (t := 56) ?_; intro M hg bV hbox hb; replace O := rb O hb; replace Y := am (Kd.R_below (Kd.R_elderB (rl Y.out) M (Nat.le_of_eq hg.symm)) hb); have ac := am hbox; have cK := gwb HB hg; replace HB := hs HB hb; have bo := nq G hg; have br := nq' G hg; replace G := bb G hb rfl; have bt := nq I hg; have bu := nq' I hg; replace I := bb I hb rfl; have bv := nq J hg; have bw := nq' J hg; replace J := bb J hb rfl; clear hb hbox hg; have dQ := br.out; have dR := bo.out; have dS := bu.out; have dT := bt.out; have dU := bw.out; have dV := bv.out; obtain ⟨dW, dX, dY, dZ, d5⟩ := bc5 (w := bV) ac.out; have d6 := blk_frozen ac.out) | ((with_reducible refine gc 47 rfl ?_); refine gl 42 Try.func47 #[.int .i64 ((rd_T56 s y).f0), .int .i64 T] ?_; (with_reducible refine (impl_LabelUnder.calls ((rd_T56 s y).f0) T true _ bU.out).mono ?_); rintro e w' ⟨rfl, ⟨nd, rfl⟩⟩; refine ⟨_, rfl, ?_⟩; have d7 := ap.out; have d8 := ao.out; have d9 := aE.out; have eb := aD.out; obtain ⟨ec, ed⟩ := bc2 (w := bV) J.out; have ee := blk_frozen J.out) | ((with_reducible refine gate_builtin (b := .append) (xs := #[.tmp 44, .tmp 46]) rfl ?_); at_builtin; refine Kd.R_append k56 (w0 := w) w.heap.size rfl (.tmp 44) (.tmp 46) 32 56 (.agg #[(.int .i64 0), (.int .i64 0), (.int .i64 0), (.int .i64 0), (.int .i64 0)]) 40 rfl Try.underlying32 info56 rfl (by decide) (by omega) ax ab (⟨(rd_T56 s y).f0, (⟨(rd_T56 s y).f1.f0, (rd_T56 s y).f1.f1⟩ : S36), (⟨(rd_T56 s y).f2.f0, (rd_T56 s y).f2.f1⟩ : S36)⟩ : S56) [.int .i64 ((rd_T56 s y).f0), .int .i64 ((rd_T56 s y).f1.f0), .int .i64 ((rd_T56 s y).f1.f1), .int .i64 ((rd_T56 s y).f2.f0), .int .i64 ((rd_T56 s y).f2.f1)] (fun k_ => k_ ≠ M) (fun _ => False) rfl (by first | (go_simp; done) | (go_simp; rfl)) ?aP (fun _ hk => hk.elim) ?aF ?aO ?aB ?aS ?aL ?_; (case aP => exact k56_mkM _ _ _ (⟨(rd_T56 s y).f0, (⟨(rd_T56 s y).f1.f0, (rd_T56 s y).f1.f1⟩ : S36), (⟨(rd_T56 s y).f2.f0, (rd_T56 s y).f2.f1⟩ : S36)⟩ : S56)); (case aB => exact (bs HB.out)); (case aF => exact (fun k_ hk => Kd.freshB (g := M) (o := .cells #[.int .i64 ((rd_T56 s y).f0), .int .i64 ((rd_T56 s y).f1.f0), .int .i64 ((rd_T56 s y).f1.f1), .int .i64 ((rd_T56 s y).f2.f0), .int .i64 ((rd_T56 s y).f2.f1)] 56 (0, 0)) (bp ac.out rfl) k_ hk)); (case aO => exact (by (with_reducible repeat (first | apply Kd.R_alloc | apply Kd.R_drewN | apply Kd.R_drew)); exact Kd.R_mono (Kd.R_far (p := ⟨M, 4, none⟩) (Kd.R_far (p := ⟨M, 3, none⟩) (Kd.R_far (p := ⟨M, 2, none⟩) (Kd.R_far (p := ⟨M, 1, none⟩) (Kd.R_far (p := ⟨M, 0, none⟩) (Kd.R_mono Y.out (fun k_ hk => (⟨hk, hk.2⟩ : _ ∧ k_ ≠ M))) (fun _ hk => hk.2) (.int .i64 ((rd_T56 s y).f0))) (fun _ hk => hk.2) (.int .i64 ((rd_T56 s y).f1.f0))) (fun _ hk => hk.2) (.int .i64 ((rd_T56 s y).f1.f1))) (fun _ hk => hk.2) (.int .i64 ((rd_T56 s y).f2.f0))) (fun _ hk => hk.2) (.int .i64 ((rd_T56 s y).f2.f1))) (fun _ hk => hk.1.2))); (case aS => exact (below_size (bs HB.out))); (case aL => have := cH.out; omega); intro ef cL ho hb hg hat; rw [← cI.out] at ho; replace O := am (Kd.R_over' (rt O.out ac.out (by decide)) (Kd.R_typed (by (with_reducible repeat (first | apply Kd.R_alloc | apply Kd.R_drewN | apply Kd.R_drew)); exact (Kd.R_mono (Kd.R_far (p := ⟨M, 4, none⟩) (Kd.R_far (p := ⟨M, 3, none⟩) (Kd.R_far (p := ⟨M, 2, none⟩) (Kd.R_far (p := ⟨M, 1, none⟩) (Kd.R_far (p := ⟨M, 0, none⟩) (Kd.R_mono Y.out (fun k_ hk => (⟨hk, hk.2⟩ : _ ∧ k_ ≠ M))) (fun _ hk => hk.2) (.int .i64 ((rd_T56 s y).f0))) (fun _ hk => hk.2) (.int .i64 ((rd_T56 s y).f1.f0))) (fun _ hk => hk.2) (.int .i64 ((rd_T56 s y).f1.f1))) (fun _ hk => hk.2) (.int .i64 ((rd_T56 s y).f2.f0))) (fun _ hk => hk.2) (.int .i64 ((rd_T56 s y).f2.f1))) (fun _ h_ => h_.1)))) (by decide) hg); replace G := gr G Y hg; replace I := gr I Y hg; replace J := gr J Y hg; replace ac := am (blk_grown (g := M) (o := .cells #[.int .i64 ((rd_T56 s y).f0), .int .i64 ((rd_T56 s y).f1.f0), .int .i64 ((rd_T56 s y).f1.f1), .int .i64 ((rd_T56 s y).f2.f0), .int .i64 ((rd_T56 s y).f2.f1)] 56 (0, 0)) (bp ac.out rfl) hg (Kd.R_away Y.out (fun _ hk => hk.2))); replace HB := am hb; have bW := am ho; clear Y; clear ho hb hg hat; obtain ⟨cM, cN, cO⟩ := Kd.R_slice bW.out; subst cO; obtain ⟨eg, eh⟩ := bc2 (w := cL) J.out; have ei := blk_frozen J.out))
            go_roundg k2
            case measure => have := aj.out; have := aV.out; omega
            case rel => exact ⟨(wrap64 (y + 1)), (bl), (.slice cM bl.length cN), eqs, H', ⟨by have := aj.out; have := aV.out; omega⟩, ⟨Kd.R_mono (rt O.out J.out (by decide)) (fun _ hk => trivial)⟩, ⟨Kd.R_mono (rt bW.out J.out (by decide)) (fun _ hk => trivial)⟩, ⟨bf G.out⟩, ⟨bf I.out⟩, ⟨by (with_reducible repeat (first | refine blk_drewN ?_ _ | refine blk_drew ?_ | refine blk_alloc ?_ _)); refine blk_put (cs := #[ae, ax]) ?_ 1 _ rfl; exact bf J.out⟩, ⟨bs HB.out⟩⟩
           ·rw [if_neg aZ] at H
            exact absurd H (by simp)
          ·replace aY := Bool.eq_false_iff.mpr aY
           subst aY
           have H1 : (impl_GraphView.l1 k2 T s (s.length : Int) (wrap64 (y + 1)) X ab) = some (Z, r2) := by rw [if_neg (show ¬ (false = true) by decide)] at H; exact H
           clear H
           have H := H1
           clear H1
           have H' := am H
           clear H
           have ar : 0 ≤ (y : Int) := oda
           have au : y < (s.length : Int) := oda
           obtain ⟨cJ, bn, aK, aM, aN, aQ, aR⟩ := at_T56 aU.out y ar au
           cases bn
           replace aK := cb HB aK
           replace aM := cb HB aM
           replace aN := cb HB aN
           replace aQ := cb HB aQ
           replace aR := cb HB aR
           replace ar := eq_true ar
           replace au := eq_true au
           go_wp2_with (first | ((with_reducible refine gd 9 rfl ?_); refine bx 9 (cs := #[.int .i64 0, .int .i64 0, .int .i64 0, .int .i64 0, .int .i64 0]) (t := 56) ?_; intro M hg cP hbox hb; replace O := rb O hb; replace Y := am (Kd.R_below (Kd.R_elderB (rl Y.out) M (Nat.le_of_eq hg.symm)) hb); have ac := am hbox; have cK := gwb HB hg; replace HB := hs HB hb; have bo := nq G hg; have br := nq' G hg; replace G := bb G hb rfl; have bt := nq I hg; have bu := nq' I hg; replace I := bb I hb rfl; have bv := nq J hg; have bw := nq' J hg; replace J := bb J hb rfl; clear hb hbox hg; have ej := br.out; have ek := bo.out; have el := bu.out; have em := bt.out; have en := bw.out; have eo := bv.out; obtain ⟨ep, eq, er, et, eu⟩ := bc5 (w := cP) ac.out; have ev := blk_frozen ac.out) | ((with_reducible refine gc 47 rfl ?_); refine gl 42 Try.func47 #[.int .i64 ((rd_T56 s y).f0), .int .i64 T] ?_; (with_reducible refine (impl_LabelUnder.calls ((rd_T56 s y).f0) T false _ bU.out).mono ?_); rintro e w' ⟨rfl, ⟨nd, rfl⟩⟩; refine ⟨_, rfl, ?_⟩))
           go_roundg k2
           case measure => have := aj.out; have := aV.out; omega
           case rel => exact ⟨(wrap64 (y + 1)), (ab), (ax), eqs, H', ⟨by have := aj.out; have := aV.out; omega⟩, ⟨Kd.R_mono (rt O.out ac.out (by decide)) (fun _ hk => trivial)⟩, ⟨by (with_reducible repeat (first | apply Kd.R_alloc | apply Kd.R_drewN | apply Kd.R_drew)); exact Kd.R_mono (Kd.R_far (p := ⟨M, 4, none⟩) (Kd.R_far (p := ⟨M, 3, none⟩) (Kd.R_far (p := ⟨M, 2, none⟩) (Kd.R_far (p := ⟨M, 1, none⟩) (Kd.R_far (p := ⟨M, 0, none⟩) (Kd.R_mono Y.out (fun k_ hk => (⟨hk, hk.2⟩ : _ ∧ k_ ≠ M))) (fun _ hk => hk.2) (.int .i64 ((rd_T56 s y).f0))) (fun _ hk => hk.2) (.int .i64 ((rd_T56 s y).f1.f0))) (fun _ hk => hk.2) (.int .i64 ((rd_T56 s y).f1.f1))) (fun _ hk => hk.2) (.int .i64 ((rd_T56 s y).f2.f0))) (fun _ hk => hk.2) (.int .i64 ((rd_T56 s y).f2.f1))) (fun _ hk => trivial)⟩, ⟨bf G.out⟩, ⟨bf I.out⟩, ⟨bf J.out⟩, ⟨bs HB.out⟩⟩
         ·rw [if_neg aX] at H
          exact absurd H (by simp)
        ·rw [if_neg aW] at H
         exact absurd H (by simp)
       ·rw [if_neg ay] at H
        have cF : decide (y < (s.length : Int)) = false := decide_eq_false ay
        clear ay
        simp only [Option.some.injEq, Prod.mk.injEq] at H
        obtain ⟨rfl, rfl⟩ := H
        have ew := ap.out
        have ex := ao.out
        have ey := aE.out
        have ez := aD.out
        obtain ⟨eA, eB⟩ := bc2 (w := wr) J.out
        have eC := blk_frozen J.out
        obtain ⟨cQ, cR, cS⟩ := Kd.R_slice O.out
        subst cS
        have eD := aC.out
        have eE := aA.out
        obtain ⟨eF, eG⟩ := bc2 (w := wr) I.out
        have eH := blk_frozen I.out
        obtain ⟨cT, cU, cV⟩ := Kd.R_slice Y.out
        subst cV
        go_wp2
        refine bodyPost_ret (results_cell_row rfl _ _ az 34 #[.slice cQ X.length cR, .slice cT ab.length cU] (0, 0) _ rfl (bp I.out rfl) Try.underlying34 rfl (by kernel_rfl)) rfl ?_
        exact ⟨_, _, eqr, Kd.R_mono (rt O.out I.out (by decide)) (fun _ hk => trivial), Kd.R_mono (rt Y.out I.out (by decide)) (fun _ hk => trivial), bs HB.out⟩
 ·replace c4 := Bool.eq_false_iff.mpr c4
  subst c4
  have H1 : (some (([] : List (S36)), ([] : List (S56)))) = some (Z, r2) := by rw [if_neg (show ¬ (false = true) by decide)] at H; exact H
  clear H
  have H := H1
  clear H1
  simp only [Option.some.injEq, Prod.mk.injEq] at H
  obtain ⟨rfl, rfl⟩ := H
  go_enter Try.func36, Try.ntmps36
  go_wp2_with (first | ((with_reducible refine gd 2 rfl ?_); refine bx 2 (cs := #[.slice af D.length ag, .slice ah s.length ai]) (t := 34) ?_; intro a3 hg eI hbox hb; have G := am hbox; have bZ := gwb HB hg; replace HB := hs HB hb; clear hb hbox hg) | ((with_reducible refine gd 4 rfl ?_); refine bx 4 (cs := #[.slice none 0 0, .slice none 0 0]) (t := 34) ?_; intro az hg eJ hbox hb; have I := am hbox; have b0 := gwb HB hg; replace HB := hs HB hb; have aA := nq G hg; have aC := nq' G hg; replace G := bb G hb rfl; clear hb hbox hg) | ((with_reducible refine gd 5 rfl ?_); refine bx 5 (cs := #[.slice none 0 0, .slice none 0 0]) (t := 34) ?_; intro a4 hg cW hbox hb; have J := am hbox; have b1 := gwb HB hg; replace HB := hs HB hb; have ao := nq G hg; have ap := nq' G hg; replace G := bb G hb rfl; have aD := nq I hg; have aE := nq' I hg; replace I := bb I hb rfl; clear hb hbox hg; have eK := aA.out; have eL := aC.out; have eM := ao.out; have eN := ap.out; obtain ⟨eO, eP⟩ := bc2 (w := cW) G.out; have eQ := blk_frozen G.out) | ((with_reducible refine gc 34 rfl ?_); refine gl 11 Try.func34 #[.agg #[.slice af D.length ag, .slice ah s.length ai]] ?_; (with_reducible refine (impl_GraphOk.calls k _ _ D _ _ s false _ ?a5 ?a6 ?a7 ?a8 A3.out).mono ?_); (case a5 => exact Kd.C_below aT.out (bs HB.out)); (case a6 => exact bF.out); (case a7 => exact Kd.C_below aU.out (bs HB.out)); (case a8 => exact bG.out); rintro e bX ⟨rfl, hb⟩; refine ⟨_, rfl, ?_⟩; replace G := bb G hb rfl; replace I := bb I hb rfl; replace J := bb J hb rfl; replace HB := hs HB hb; (try clear hb); have eR := aE.out; have eS := aD.out; obtain ⟨eT, eU⟩ := bc2 (w := bX) J.out; have eV := blk_frozen J.out; obtain ⟨eW, eX⟩ := bc2 (w := bX) I.out; have eY := blk_frozen I.out))
  refine bodyPost_ret (results_cell_row rfl _ _ az 34 #[.slice none 0 0, .slice none 0 0] (0, 0) _ rfl (bp I.out rfl) Try.underlying34 rfl (by kernel_rfl)) rfl ?_
  exact ⟨_, _, eqr, by first | exact Kd.R_nil _ _ _ _ _ | exact Kd.N_nil _ _ _ _ _ | exact Kd.V_nil _ _ _ _ _ | exact Kd.Q_nil _ _ _ _ _ | exact Kd.S_nil _ _ _ _ _, by first | exact Kd.R_nil _ _ _ _ _ | exact Kd.N_nil _ _ _ _ _ | exact Kd.V_nil _ _ _ _ _ | exact Kd.Q_nil _ _ _ _ _ | exact Kd.S_nil _ _ _ _ _, bs HB.out⟩

end Go.Proofs.Ytohmemckdogljaa.QFnGraphUnion
