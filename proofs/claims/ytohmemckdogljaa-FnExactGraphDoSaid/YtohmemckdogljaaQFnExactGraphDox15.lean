/- Contracts of the Go functions that this law reaches: each does what its plain Lean function says. No condition. -/
import Derived.Test.YtohmemckdogljaaQFnExactGraphDox0
import Derived.Test.YtohmemckdogljaaQFnExactGraphDox1
import Derived.Test.YtohmemckdogljaaQFnExactGraphDox2
import Derived.Test.YtohmemckdogljaaQFnExactGraphDox13
import Derived.Test.YtohmemckdogljaaQFnExactGraphDox14
namespace Go.Proofs.Ytohmemckdogljaa.QFnExactGraphDo
open Go.RowKit Go.Proofs.YtohmemckdogljaaW.PrintWords Go.Proofs.YtohmemckdogljaaW.PrintLast Go.Proofs.YtohmemckdogljaaW.PrintMore Go.Proofs.Ytohmemckdogljaa.Bl
attribute [local go_sem] max2_int min2_int max_two min_two max_three min_three max_four min_four   -- for this text's walks alone
set_option linter.unusedVariables false
set_option linter.unusedSimpArgs false
set_option maxHeartbeats 8000000
set_option maxRecDepth 100000

attribute [local go_sem high] eqA36 eqA56
/-! ### impl_edgesOk: function 82 -/
def impl_edgesOk.l0 : Nat → List S56 → List S36 → List Int → Int → Option Bool
 | 0, _, _, _, _ => none
 | k + 1, es, ns, m, i => if i < (es.length : Int) then (if 0 ≤ i then (if EOk (rd_T56 es i).f0 (rd_T56 es i).f1.f0 (rd_T56 es i).f1.f1 (rd_T56 es i).f2.f0 (rd_T56 es i).f2.f1 = true then (if rd m (rd_T56 es i).f0 = 7 then some false else (if i > 0 then (if 0 ≤ wrap64 (i - 1) then (if wrap64 (i - 1) < (es.length : Int) then (impl_edgeOrder.f k (rd_T56 es (wrap64 (i - 1))).f0 (rd_T56 es (wrap64 (i - 1))).f1.f0 (rd_T56 es (wrap64 (i - 1))).f1.f1 (rd_T56 es (wrap64 (i - 1))).f2.f0 (rd_T56 es (wrap64 (i - 1))).f2.f1 (rd_T56 es i).f0 (rd_T56 es i).f1.f0 (rd_T56 es i).f1.f1 (rd_T56 es i).f2.f0 (rd_T56 es i).f2.f1).bind fun t => if t ≥ 0 then some false else ((impl_nodeThere.f k ns (rd_T56 es i).f1.f0 (rd_T56 es i).f1.f1).bind fun s => if s = true then (impl_nodeThere.f k ns (rd_T56 es i).f2.f0 (rd_T56 es i).f2.f1).bind fun y => if y = true then impl_edgesOk.l0 k es ns (m.set ((rd_T56 es i).f0).toNat (wrap64 (rd m (rd_T56 es i).f0 + 1))) (wrap64 (i + 1)) else some false else some false) else none) else none) else ((impl_nodeThere.f k ns (rd_T56 es i).f1.f0 (rd_T56 es i).f1.f1).bind fun s => if s = true then (impl_nodeThere.f k ns (rd_T56 es i).f2.f0 (rd_T56 es i).f2.f1).bind fun y => if y = true then impl_edgesOk.l0 k es ns (m.set ((rd_T56 es i).f0).toNat (wrap64 (rd m (rd_T56 es i).f0 + 1))) (wrap64 (i + 1)) else some false else some false))) else some false) else none) else some true
def impl_edgesOk.f (k : Nat) (l0 : List S56) (l1 : List S36) : Option Bool := impl_edgesOk.l0 k l0 l1 [0, 0, 0, 0, 0, 0, 0, 0] 0
theorem impl_edgesOk.calls (k : Nat) (A0 : Option Addr) (c0 : Nat) (l0 : List S56) (A1 : Option Addr) (c1 : Nat) (l1 : List S36) (r : Bool) (w : World) (az : Kd.C k56 w A0 l0.length l0) (aA : l0.length ≤ c0) (aB : Kd.C k36 w A1 l1.length l1) (aC : l1.length ≤ c1) (h : impl_edgesOk.f k l0 l1 = some r) :
  Calls Try.prog 82 #[.slice A0 l0.length c0, .slice A1 l1.length c1] w fun e w' => e = .returned (.bool r) ∧ Below w.heap.size w w' := by
 have hu36 := Try.underlying36
 have hu56 := Try.underlying56
 have hu122 := Try.underlying122
 have ay := am az
 have ba := am aA
 have av := am aB
 have aw := am aC
 clear az aA aB aC
 have HB := am (Below.refl w.heap.size w)
 have H' := am (show impl_edgesOk.l0 k l0 l1 [0, 0, 0, 0, 0, 0, 0, 0] 0 = some r from h)
 clear h
 go_enter Try.func82, Try.ntmps82
 go_wp2_with (first | ((with_reducible refine gd 5 rfl ?_); refine bx 5 (cs := cts [0, 0, 0, 0, 0, 0, 0, 0]) (t := 122) ?_; intro gb hg w3 hbox hb; have BK := am hbox; have GE := Ge.mk ((by rw [hg]; exact (below_size (bs HB.out)) : w.heap.size ≤ gb)); replace HB := am (below_step HB.out hb); clear hg hb hbox))
 go_loopg [10] k (fun kq aR w' => ∃ (z : Int) (m : List Int), aR = .int .i64 z ∧ Aside0 (impl_edgesOk.l0 kq l0 l1 m z = some r) ∧ Aside0 (m.length = 8) ∧ Aside0 (kq ≤ k) ∧ Aside0 (w'.heap[gb]? = some (.cells (cts m) 122 (0, 0))) ∧ Aside0 (Below w.heap.size w w'))
 case atStart => exact ⟨0, [0, 0, 0, 0, 0, 0, 0, 0], eqs, H', ⟨rfl⟩, ⟨Nat.le_refl _⟩, ⟨bf BK.out⟩, ⟨bs HB.out⟩⟩
 case round =>
  clear H'
  obtain ⟨z, m, rfl, HA, HM, ax, BK, HB⟩ := hrel
  cases gk with
  | zero => exact absurd HA.out (by simp [impl_edgesOk.l0])
  | succ k1 =>
   have H := HA.out
   clear HA
   simp only [impl_edgesOk.l0] at H
   by_cases c1 : z < (l0.length : Int)
   ·rw [if_pos c1] at H
    have aS : decide (z < (l0.length : Int)) = true := decide_eq_true c1
    by_cases c2 : 0 ≤ z
    ·rw [if_pos c2] at H
     have p0 := c2
     have q0 := c1
     obtain ⟨ad, ea, aj, ak, al, an, ao⟩ := at_T56 ay.out z p0 q0
     cases ea
     have CX := am (show 0 ≤ z ∧ z < (l0.length : Int) from ⟨c2, c1⟩)
     replace aj := cb HB aj
     replace ak := cb HB ak
     replace al := cb HB al
     replace an := cb HB an
     replace ao := cb HB ao
     replace p0 := eq_true p0
     replace q0 := eq_true q0
     clear c1 c2
     generalize (rd_T56 l0 z).f0 = y at H aj ak al an ao
     generalize (rd_T56 l0 z).f1.f0 = J at H aj ak al an ao
     generalize (rd_T56 l0 z).f1.f1 = M at H aj ak al an ao
     generalize (rd_T56 l0 z).f2.f0 = L at H aj ak al an ao
     generalize (rd_T56 l0 z).f2.f1 = O at H aj ak al an ao
     go_wp2_with (first | ((with_reducible refine gd 7 rfl ?_); refine bx 7 (cs := #[.int .i64 0, .int .i64 0, .int .i64 0, .int .i64 0, .int .i64 0]) (t := 56) ?_; intro gn hg w5 hbox hb; have BN := am hbox; have GN := am ((by rw [hg]; exact (below_size (bs HB.out)) : w.heap.size ≤ gn)); replace HB := hs HB hb; have NE := am ((by rw [hg]; exact Nat.ne_of_lt (blk_lt (g := gb) (bf BK.out)) : gb ≠ gn)); replace BK := am (blk_below (g := gb) (bf BK.out) hb); clear hb hbox hg; have X : w5.cell? ⟨gn, 0, none⟩ = some (.int .i64 0) := (blk_cell BN.out 0).trans rfl; have Y : w5.cell? ⟨gn, 1, none⟩ = some (.int .i64 0) := (blk_cell BN.out 1).trans rfl; have Z : w5.cell? ⟨gn, 2, none⟩ = some (.int .i64 0) := (blk_cell BN.out 2).trans rfl; have aa : w5.cell? ⟨gn, 3, none⟩ = some (.int .i64 0) := (blk_cell BN.out 3).trans rfl; have ab : w5.cell? ⟨gn, 4, none⟩ = some (.int .i64 0) := (blk_cell BN.out 4).trans rfl; have aT := blk_frozen BN.out 0; have aU := blk_frozen BN.out 1; have aV := blk_frozen BN.out 2; have aW := blk_frozen BN.out 3; have aX := blk_frozen BN.out 4))
     have D := am (blk_far (blk_far (blk_far (blk_far (blk_far (BK.out) (p := ⟨gn, 0, none⟩) NE.out (.int .i64 y)) (p := ⟨gn, 1, none⟩) NE.out (.int .i64 J)) (p := ⟨gn, 2, none⟩) NE.out (.int .i64 M)) (p := ⟨gn, 3, none⟩) NE.out (.int .i64 L)) (p := ⟨gn, 4, none⟩) NE.out (.int .i64 O))
     have G := am (blk_put (cs' := #[.int .i64 y, .int .i64 J, .int .i64 M, .int .i64 L, .int .i64 O]) (blk_put (cs' := #[.int .i64 y, .int .i64 J, .int .i64 M, .int .i64 L, .int .i64 0]) (blk_put (cs' := #[.int .i64 y, .int .i64 J, .int .i64 M, .int .i64 0, .int .i64 0]) (blk_put (cs' := #[.int .i64 y, .int .i64 J, .int .i64 0, .int .i64 0, .int .i64 0]) (blk_put (cs' := #[.int .i64 y, .int .i64 0, .int .i64 0, .int .i64 0, .int .i64 0]) (BN.out) 0 (.int .i64 y) rfl) 1 (.int .i64 J) rfl) 2 (.int .i64 M) rfl) 3 (.int .i64 L) rfl) 4 (.int .i64 O) rfl)
     have I := am (below_set (j := 4) (v := .int .i64 O) (below_set (j := 3) (v := .int .i64 L) (below_set (j := 2) (v := .int .i64 M) (below_set (j := 1) (v := .int .i64 J) (below_set (j := 0) (v := .int .i64 y) (HB.out) GN.out) GN.out) GN.out) GN.out) GN.out)
     clear BK BN HB X aT Y aU Z aV aa aW ab aX
     have BK := D
     have BN := G
     have HB := I
     clear D G I
     generalize (((((w5).setCell ⟨gn, 0, none⟩ (.int .i64 y)).setCell ⟨gn, 1, none⟩ (.int .i64 J)).setCell ⟨gn, 2, none⟩ (.int .i64 M)).setCell ⟨gn, 3, none⟩ (.int .i64 L)).setCell ⟨gn, 4, none⟩ (.int .i64 O) = w6 at BK BN HB ⊢
     refine (impl_EdgeOk.calls y J M L O (EOk y J M L O) _ rfl).mono ?_
     rintro e T ⟨rfl, hb⟩
     have D := am (blk_below BK.out hb)
     have G := am (blk_below BN.out hb)
     have I := am (below_step (bs HB.out) hb)
     clear BK BN HB hb
     have BK := D
     have BN := G
     have HB := I
     clear D G I
     have X : T.cell? ⟨gn, 0, none⟩ = some (.int .i64 y) := (blk_cell BN.out 0).trans rfl
     have Y : T.cell? ⟨gn, 1, none⟩ = some (.int .i64 J) := (blk_cell BN.out 1).trans rfl
     have Z : T.cell? ⟨gn, 2, none⟩ = some (.int .i64 M) := (blk_cell BN.out 2).trans rfl
     have aa : T.cell? ⟨gn, 3, none⟩ = some (.int .i64 L) := (blk_cell BN.out 3).trans rfl
     have ab : T.cell? ⟨gn, 4, none⟩ = some (.int .i64 O) := (blk_cell BN.out 4).trans rfl
     by_cases c3 : EOk y J M L O = true
     ·rw [if_pos c3] at H
      have HL := am (EOk_l c3)
      obtain ⟨j0, aD⟩ := Int.eq_ofNat_of_zero_le HL.out.1
      have aE : T.cell? ⟨gb, j0, none⟩ = some (.int .i64 (rd m y)) := by rw [aD]; exact (blk_cell BK.out j0).trans (cts_get m j0 (by have := HM.out; have := HL.out.2; omega))
      have htn : (y : Int).toNat = j0 := by omega
      have hcm : T.cell? ⟨gb, (y : Int).toNat, none⟩ = some (.int .i64 (rd m y)) := by rw [htn]; exact aE
      have hfm := blk_frozen BK.out (y : Int).toNat
      have hlo : (0 ≤ y) = True := eq_true HL.out.1
      have hhi : (y < 8) = True := eq_true (by have := HL.out.2; omega)
      have aF : (y : Int).toNat < 8 := by have := HL.out; omega
      clear aD aE htn j0
      by_cases c4 : rd m y = 7
      ·rw [if_pos c4] at H
       have aY : (rd m y == 7) = true := beq_iff_eq.mpr c4
       clear c4
       obtain rfl := Option.some.inj H
       go_wp2
       go_ret
       exact ⟨eqs, bs HB.out⟩
      ·rw [if_neg c4] at H
       have aY : (rd m y == 7) = false := beq_eq_false_iff_ne.mpr c4
       clear c4
       by_cases c5 : z > 0
       ·rw [if_pos c5] at H
        have aZ : decide (0 < z) = true := decide_eq_true c5
        have hwr : wrap64 (z - 1) = z - 1 := w64 (by have := CX.out; have := ay.out.2.1; omega)
        rw [hwr] at H
        rw [if_pos (show 0 ≤ z - 1 by omega), if_pos (show z - 1 < (l0.length : Int) by have := CX.out; omega)] at H
        obtain ⟨q, hq⟩ : ∃ q, z - 1 = q := ⟨_, rfl⟩
        have hqw : wrap64 (z - 1) = q := hwr.trans hq
        rw [hq] at H
        have p1 : 0 ≤ q := by omega
        have q1 : q < (l0.length : Int) := by have := CX.out; omega
        obtain ⟨ad', ea', ac, ae, af, ag, ah⟩ := at_T56 ay.out q p1 q1
        obtain rfl : ad = ad' := by injection ea'
        clear ea' hwr
        replace hq := am hq
        replace ac : T.cell? (ad.add (q.toNat * 5)) = some (.int .i64 (rd_T56 l0 q).f0) := cb HB ac
        replace ae : T.cell? ⟨(ad.add (q.toNat * 5)).block, (ad.add (q.toNat * 5)).off + 1, none⟩ = some (.int .i64 (rd_T56 l0 q).f1.f0) := cb HB ae
        replace af : T.cell? ⟨(ad.add (q.toNat * 5)).block, (ad.add (q.toNat * 5)).off + 2, none⟩ = some (.int .i64 (rd_T56 l0 q).f1.f1) := cb HB af
        replace ag : T.cell? ⟨(ad.add (q.toNat * 5)).block, (ad.add (q.toNat * 5)).off + 3, none⟩ = some (.int .i64 (rd_T56 l0 q).f2.f0) := cb HB ag
        replace ah : T.cell? ⟨(ad.add (q.toNat * 5)).block, (ad.add (q.toNat * 5)).off + 4, none⟩ = some (.int .i64 (rd_T56 l0 q).f2.f1) := cb HB ah
        replace p1 := eq_true p1
        replace q1 := eq_true q1
        generalize (rd_T56 l0 q).f0 = d0 at H ac ae af ag ah
        generalize (rd_T56 l0 q).f1.f0 = d1 at H ac ae af ag ah
        generalize (rd_T56 l0 q).f1.f1 = d2 at H ac ae af ag ah
        generalize (rd_T56 l0 q).f2.f0 = d3 at H ac ae af ag ah
        generalize (rd_T56 l0 q).f2.f1 = d4 at H ac ae af ag ah
        replace H := Option.bind_eq_some_iff.mp H
        obtain ⟨t, aG, H⟩ := H
        have A3 := am aG
        clear aG
        go_wp2
        refine wp_region_bel (by kernel_rfl) (by kernel_rfl) ?_
        clear X Y Z aa ab hcm hfm hlo hhi aF
        replace BK := bd BK
        replace BN := am (blk_drew BN.out)
        replace HB := hd HB
        replace ac : T.drew.cell? (ad.add (q.toNat * 5)) = some (.int .i64 d0) := ac
        replace ae : T.drew.cell? ⟨(ad.add (q.toNat * 5)).block, (ad.add (q.toNat * 5)).off + 1, none⟩ = some (.int .i64 d1) := ae
        replace af : T.drew.cell? ⟨(ad.add (q.toNat * 5)).block, (ad.add (q.toNat * 5)).off + 2, none⟩ = some (.int .i64 d2) := af
        replace ag : T.drew.cell? ⟨(ad.add (q.toNat * 5)).block, (ad.add (q.toNat * 5)).off + 3, none⟩ = some (.int .i64 d3) := ag
        replace ah : T.drew.cell? ⟨(ad.add (q.toNat * 5)).block, (ad.add (q.toNat * 5)).off + 4, none⟩ = some (.int .i64 d4) := ah
        generalize T.drew = w8 at BK BN HB ac ae af ag ah ⊢
        have aH : ∀ p : Bel w8, p.v.cell? (ad.add (q.toNat * 5)) = some (.int .i64 d0) := fun p => cell_bel ac p
        have aI : ∀ p : Bel w8, p.v.cell? ⟨(ad.add (q.toNat * 5)).block, (ad.add (q.toNat * 5)).off + 1, none⟩ = some (.int .i64 d1) := fun p => cell_bel ae p
        have aJ : ∀ p : Bel w8, p.v.cell? ⟨(ad.add (q.toNat * 5)).block, (ad.add (q.toNat * 5)).off + 2, none⟩ = some (.int .i64 d2) := fun p => cell_bel af p
        have aK : ∀ p : Bel w8, p.v.cell? ⟨(ad.add (q.toNat * 5)).block, (ad.add (q.toNat * 5)).off + 3, none⟩ = some (.int .i64 d3) := fun p => cell_bel ag p
        have aL : ∀ p : Bel w8, p.v.cell? ⟨(ad.add (q.toNat * 5)).block, (ad.add (q.toNat * 5)).off + 4, none⟩ = some (.int .i64 d4) := fun p => cell_bel ah p
        clear ac ae af ag ah
        have aM : ∀ p : Bel w8, p.v.cell? ⟨gn, 0, none⟩ = some (.int .i64 y) := fun p => cell_bel ((blk_cell BN.out 0).trans rfl) p
        have aN : ∀ p : Bel w8, p.v.cell? ⟨gn, 1, none⟩ = some (.int .i64 J) := fun p => cell_bel ((blk_cell BN.out 1).trans rfl) p
        have aO : ∀ p : Bel w8, p.v.cell? ⟨gn, 2, none⟩ = some (.int .i64 M) := fun p => cell_bel ((blk_cell BN.out 2).trans rfl) p
        have aP : ∀ p : Bel w8, p.v.cell? ⟨gn, 3, none⟩ = some (.int .i64 L) := fun p => cell_bel ((blk_cell BN.out 3).trans rfl) p
        have aQ : ∀ p : Bel w8, p.v.cell? ⟨gn, 4, none⟩ = some (.int .i64 O) := fun p => cell_bel ((blk_cell BN.out 4).trans rfl) p
        by_cases c6 : t ≥ 0
        ·rw [if_pos c6] at H
         have a8 : decide (0 ≤ t) = true := decide_eq_true c6
         clear c6
         repeat (go_big_quiet_step (with_reducible exact calls_bel (impl_edgeOrder.calls k1 d0 d1 d2 d3 d4 y J M L O t _ A3.out)))
         refine wpQuiet_nil ?_
         intro w9 hw'
         obtain ⟨⟨wq_, hb⟩, hw''⟩ := hw'
         subst hw''
         clear aH aI aJ aK aL aM aN aO aP aQ hqw
         have D := am (blk_below BK.out hb)
         have G := am (blk_below BN.out hb)
         have I := am (below_step (bs HB.out) hb)
         clear BK BN HB hb
         have BK := D
         have BN := G
         have HB := I
         clear D G I
         obtain rfl := Option.some.inj H
         go_wp2
         go_ret
         exact ⟨eqs, bs HB.out⟩
        ·rw [if_neg c6] at H
         have a8 : decide (0 ≤ t) = false := decide_eq_false c6
         clear c6
         repeat (go_big_quiet_step (with_reducible exact calls_bel (impl_edgeOrder.calls k1 d0 d1 d2 d3 d4 y J M L O t _ A3.out)))
         refine wpQuiet_nil ?_
         intro w9 hw'
         obtain ⟨⟨wq_, hb⟩, hw''⟩ := hw'
         subst hw''
         clear aH aI aJ aK aL aM aN aO aP aQ hqw
         have D := am (blk_below BK.out hb)
         have G := am (blk_below BN.out hb)
         have I := am (below_step (bs HB.out) hb)
         clear BK BN HB hb
         have BK := D
         have BN := G
         have HB := I
         clear D G I
         replace H := Option.bind_eq_some_iff.mp H
         obtain ⟨t1, aq, H⟩ := H
         have A1 := am aq
         clear aq
         have X : w9.cell? ⟨gn, 0, none⟩ = some (.int .i64 y) := (blk_cell BN.out 0).trans rfl
         have Y : w9.cell? ⟨gn, 1, none⟩ = some (.int .i64 J) := (blk_cell BN.out 1).trans rfl
         have Z : w9.cell? ⟨gn, 2, none⟩ = some (.int .i64 M) := (blk_cell BN.out 2).trans rfl
         have aa : w9.cell? ⟨gn, 3, none⟩ = some (.int .i64 L) := (blk_cell BN.out 3).trans rfl
         have ab : w9.cell? ⟨gn, 4, none⟩ = some (.int .i64 O) := (blk_cell BN.out 4).trans rfl
         go_wp2_with fail
         refine (impl_nodeThere.calls k1 _ _ l1 J M t1 _ ?ap aw.out A1.out).mono ?_
         case ap => exact Kd.C_below av.out (bs HB.out)
         rintro e ai ⟨rfl, hb⟩
         clear X Y Z aa ab
         have D := am (blk_below BK.out hb)
         have G := am (blk_below BN.out hb)
         have I := am (below_step (bs HB.out) hb)
         clear BK BN HB hb
         have BK := D
         have BN := G
         have HB := I
         clear D G I
         by_cases c7 : t1 = true
         ·subst c7
          replace H : ((impl_nodeThere.f k1 l1 L O).bind fun t2 => if t2 = true then impl_edgesOk.l0 k1 l0 l1 (m.set (y : Int).toNat (wrap64 (rd m y + 1))) (wrap64 (z + 1)) else some false) = some r := by rw [if_pos rfl] at H; exact H
          replace H := Option.bind_eq_some_iff.mp H
          obtain ⟨t2, ar, H⟩ := H
          have A2 := am ar
          clear ar
          have X : ai.cell? ⟨gn, 0, none⟩ = some (.int .i64 y) := (blk_cell BN.out 0).trans rfl
          have Y : ai.cell? ⟨gn, 1, none⟩ = some (.int .i64 J) := (blk_cell BN.out 1).trans rfl
          have Z : ai.cell? ⟨gn, 2, none⟩ = some (.int .i64 M) := (blk_cell BN.out 2).trans rfl
          have aa : ai.cell? ⟨gn, 3, none⟩ = some (.int .i64 L) := (blk_cell BN.out 3).trans rfl
          have ab : ai.cell? ⟨gn, 4, none⟩ = some (.int .i64 O) := (blk_cell BN.out 4).trans rfl
          go_wp2_with fail
          refine (impl_nodeThere.calls k1 _ _ l1 L O t2 _ ?ap aw.out A2.out).mono ?_
          case ap => exact Kd.C_below av.out (bs HB.out)
          rintro e au ⟨rfl, hb⟩
          clear X Y Z aa ab
          have D := am (blk_below BK.out hb)
          have G := am (blk_below BN.out hb)
          have I := am (below_step (bs HB.out) hb)
          clear BK BN HB hb
          have BK := D
          have BN := G
          have HB := I
          clear D G I
          by_cases c8 : t2 = true
          ·subst c8
           replace H : impl_edgesOk.l0 k1 l0 l1 (m.set (y : Int).toNat (wrap64 (rd m y + 1))) (wrap64 (z + 1)) = some r := by rw [if_pos rfl] at H; exact H
           have H' := am H
           clear H
           obtain ⟨j, rfl⟩ := Int.eq_ofNat_of_zero_le HL.out.1
           have X : au.cell? ⟨gn, 0, none⟩ = some (.int .i64 (j : Int)) := (blk_cell BN.out 0).trans rfl
           have a9 : j < 8 := by have := HL.out.2; omega
           have hjm : j < m.length := by have := HM.out; omega
           have hcm : au.cell? ⟨gb, j, none⟩ = some (.int .i64 (rd m j)) := (blk_cell BK.out j).trans (cts_get m j hjm)
           have hfm := blk_frozen BK.out j
           have hlo : (0 ≤ (j : Int)) = True := eq_true (by omega)
           have hhi : ((j : Int) < 8) = True := eq_true (by omega)
           go_wp2
           go_roundg k1
           case measure => have := ax.out; omega
           case rel => exact ⟨wrap64 (z + 1), m.set j (wrap64 (rd m (j : Int) + 1)), eqs, ⟨by simpa using H'.out⟩, ⟨by simpa using HM.out⟩, ⟨by have := ax.out; omega⟩, ⟨by refine blk_put ?_ j _ (cts_set m j _); exact bf BK.out⟩, ⟨bs HB.out⟩⟩
          ·replace c8 := Bool.eq_false_iff.mpr c8
           subst c8
           replace H : some false = some r := by rw [if_neg (by decide)] at H; exact H
           obtain rfl := Option.some.inj H
           go_wp2
           go_ret
           exact ⟨eqs, bs HB.out⟩
         ·replace c7 := Bool.eq_false_iff.mpr c7
          subst c7
          replace H : some false = some r := by rw [if_neg (by decide)] at H; exact H
          obtain rfl := Option.some.inj H
          go_wp2
          go_ret
          exact ⟨eqs, bs HB.out⟩
       ·rw [if_neg c5] at H
        have aZ : decide (0 < z) = false := decide_eq_false c5
        clear c5
        go_wp2
        refine wp_region_bel (by kernel_rfl) (by kernel_rfl) ?_
        clear X Y Z aa ab hcm hfm hlo hhi aF
        replace BK := bd BK
        replace BN := am (blk_drew BN.out)
        replace HB := hd HB
        generalize T.drew = w8 at BK BN HB ⊢
        repeat (go_big_quiet_step (fail))
        refine wpQuiet_nil ?_
        intro w9 hw'
        obtain ⟨⟨wq_, hb⟩, hw''⟩ := hw'
        subst hw''
        have D := am (blk_below BK.out hb)
        have G := am (blk_below BN.out hb)
        have I := am (below_step (bs HB.out) hb)
        clear BK BN HB hb
        have BK := D
        have BN := G
        have HB := I
        clear D G I
        replace H := Option.bind_eq_some_iff.mp H
        obtain ⟨t1, aq, H⟩ := H
        have A1 := am aq
        clear aq
        have X : w9.cell? ⟨gn, 0, none⟩ = some (.int .i64 y) := (blk_cell BN.out 0).trans rfl
        have Y : w9.cell? ⟨gn, 1, none⟩ = some (.int .i64 J) := (blk_cell BN.out 1).trans rfl
        have Z : w9.cell? ⟨gn, 2, none⟩ = some (.int .i64 M) := (blk_cell BN.out 2).trans rfl
        have aa : w9.cell? ⟨gn, 3, none⟩ = some (.int .i64 L) := (blk_cell BN.out 3).trans rfl
        have ab : w9.cell? ⟨gn, 4, none⟩ = some (.int .i64 O) := (blk_cell BN.out 4).trans rfl
        go_wp2_with fail
        refine (impl_nodeThere.calls k1 _ _ l1 J M t1 _ ?ap aw.out A1.out).mono ?_
        case ap => exact Kd.C_below av.out (bs HB.out)
        rintro e ai ⟨rfl, hb⟩
        clear X Y Z aa ab
        have D := am (blk_below BK.out hb)
        have G := am (blk_below BN.out hb)
        have I := am (below_step (bs HB.out) hb)
        clear BK BN HB hb
        have BK := D
        have BN := G
        have HB := I
        clear D G I
        by_cases c7 : t1 = true
        ·subst c7
         replace H : ((impl_nodeThere.f k1 l1 L O).bind fun t2 => if t2 = true then impl_edgesOk.l0 k1 l0 l1 (m.set (y : Int).toNat (wrap64 (rd m y + 1))) (wrap64 (z + 1)) else some false) = some r := by rw [if_pos rfl] at H; exact H
         replace H := Option.bind_eq_some_iff.mp H
         obtain ⟨t2, ar, H⟩ := H
         have A2 := am ar
         clear ar
         have X : ai.cell? ⟨gn, 0, none⟩ = some (.int .i64 y) := (blk_cell BN.out 0).trans rfl
         have Y : ai.cell? ⟨gn, 1, none⟩ = some (.int .i64 J) := (blk_cell BN.out 1).trans rfl
         have Z : ai.cell? ⟨gn, 2, none⟩ = some (.int .i64 M) := (blk_cell BN.out 2).trans rfl
         have aa : ai.cell? ⟨gn, 3, none⟩ = some (.int .i64 L) := (blk_cell BN.out 3).trans rfl
         have ab : ai.cell? ⟨gn, 4, none⟩ = some (.int .i64 O) := (blk_cell BN.out 4).trans rfl
         go_wp2_with fail
         refine (impl_nodeThere.calls k1 _ _ l1 L O t2 _ ?ap aw.out A2.out).mono ?_
         case ap => exact Kd.C_below av.out (bs HB.out)
         rintro e au ⟨rfl, hb⟩
         clear X Y Z aa ab
         have D := am (blk_below BK.out hb)
         have G := am (blk_below BN.out hb)
         have I := am (below_step (bs HB.out) hb)
         clear BK BN HB hb
         have BK := D
         have BN := G
         have HB := I
         clear D G I
         by_cases c8 : t2 = true
         ·subst c8
          replace H : impl_edgesOk.l0 k1 l0 l1 (m.set (y : Int).toNat (wrap64 (rd m y + 1))) (wrap64 (z + 1)) = some r := by rw [if_pos rfl] at H; exact H
          have H' := am H
          clear H
          obtain ⟨j, rfl⟩ := Int.eq_ofNat_of_zero_le HL.out.1
          have X : au.cell? ⟨gn, 0, none⟩ = some (.int .i64 (j : Int)) := (blk_cell BN.out 0).trans rfl
          have a9 : j < 8 := by have := HL.out.2; omega
          have hjm : j < m.length := by have := HM.out; omega
          have hcm : au.cell? ⟨gb, j, none⟩ = some (.int .i64 (rd m j)) := (blk_cell BK.out j).trans (cts_get m j hjm)
          have hfm := blk_frozen BK.out j
          have hlo : (0 ≤ (j : Int)) = True := eq_true (by omega)
          have hhi : ((j : Int) < 8) = True := eq_true (by omega)
          go_wp2
          go_roundg k1
          case measure => have := ax.out; omega
          case rel => exact ⟨wrap64 (z + 1), m.set j (wrap64 (rd m (j : Int) + 1)), eqs, ⟨by simpa using H'.out⟩, ⟨by simpa using HM.out⟩, ⟨by have := ax.out; omega⟩, ⟨by refine blk_put ?_ j _ (cts_set m j _); exact bf BK.out⟩, ⟨bs HB.out⟩⟩
         ·replace c8 := Bool.eq_false_iff.mpr c8
          subst c8
          replace H : some false = some r := by rw [if_neg (by decide)] at H; exact H
          obtain rfl := Option.some.inj H
          go_wp2
          go_ret
          exact ⟨eqs, bs HB.out⟩
        ·replace c7 := Bool.eq_false_iff.mpr c7
         subst c7
         replace H : some false = some r := by rw [if_neg (by decide)] at H; exact H
         obtain rfl := Option.some.inj H
         go_wp2
         go_ret
         exact ⟨eqs, bs HB.out⟩
     ·rw [if_neg c3] at H
      replace c3 := Bool.eq_false_iff.mpr c3
      obtain rfl := Option.some.inj H
      rw [c3]
      go_wp2
      go_ret
      exact ⟨eqs, bs HB.out⟩
    ·rw [if_neg c2] at H; cases H
   ·rw [if_neg c1] at H
    have aS : decide (z < (l0.length : Int)) = false := decide_eq_false c1
    clear c1
    obtain rfl := Option.some.inj H
    go_wp2
    go_ret
    exact ⟨eqs, bs HB.out⟩

/-! ### impl_GraphOk: function 34 -/
def impl_GraphOk.f (k : Nat) (s : List (S36)) (y : List (S56)) : Option (Bool) := (impl_nodesOk.f k s).bind fun z => (if z = true then ((impl_edgesOk.f k y s).bind fun D => (some D)) else (some false))
theorem impl_GraphOk.calls (k : Nat) (D : Option Addr) (G : Nat) (s : List (S36)) (L : Option Addr) (M : Nat) (z : List (S56)) (r : Bool) (w : World) (Z : Kd.C k36 w D s.length s) (aa : s.length ≤ G) (ab : Kd.C k56 w L z.length z) (ac : z.length ≤ M) (h : impl_GraphOk.f k s z = some r) :
  Calls Try.prog 34 #[.agg #[.slice D s.length G, .slice L z.length M]] w fun e w' => e = .returned (.bool r) ∧ Below w.heap.size w w' := by
 have hu34 := Try.underlying34
 have T := am Z
 have X := am aa
 clear Z aa
 have ag := am ab
 have ah := am ac
 clear ab ac
 have HB := am (Below.refl w.heap.size w)
 have H := h; unfold impl_GraphOk.f at H
 clear h
 replace H := Option.bind_eq_some_iff.mp H
 obtain ⟨ai, ae, H⟩ := H
 try dsimp -simprocs only at H
 have A2 := am ae
 clear ae
 by_cases O : ai = true
 ·subst O
  replace H : ((impl_edgesOk.f k z s).bind fun Y => (some Y)) = some r := by rw [if_pos rfl] at H; exact H
  replace H := Option.bind_eq_some_iff.mp H
  obtain ⟨Y, af, H⟩ := H
  try dsimp -simprocs only at H
  have A4 := am af
  clear af
  obtain rfl := Option.some.inj H
  go_enter Try.func34, Try.ntmps34
  go_wp2_with (first | ((with_reducible refine gd 1 rfl ?_); refine bx 1 (cs := #[.slice D s.length G, .slice L z.length M]) (t := 34) ?_; intro aj hg w5 hbox hb; have y := am hbox; have ak := gwb HB hg; replace HB := hs HB hb; clear hb hbox hg; obtain ⟨ap, aq⟩ := bc2 (w := w5) y.out; have ar := blk_frozen y.out) | ((with_reducible refine gc 81 rfl ?_); refine gl 5 Try.func81 #[.slice D s.length G] ?_; (with_reducible refine (impl_nodesOk.calls k _ _ s true _ ?I ?J A2.out).mono ?_); (case I => exact Kd.C_below T.out (bs HB.out)); (case J => exact X.out); rintro e w7 ⟨rfl, hb⟩; refine ⟨_, rfl, ?_⟩; replace y := bb y hb rfl; replace HB := hs HB hb; (try clear hb); obtain ⟨au, av⟩ := bc2 (w := w7) y.out; have aw := blk_frozen y.out) | (go_at_call 82; (with_reducible refine (impl_edgesOk.calls k _ _ z _ _ s Y _ ?I ?J ?al ?an A4.out).mono ?_); (case I => exact Kd.C_below ag.out (bs HB.out)); (case J => exact ah.out); (case al => exact Kd.C_below T.out (bs HB.out)); (case an => exact X.out); rintro e w9 ⟨rfl, hb⟩; replace y := bb y hb rfl; replace HB := hs HB hb; (try clear hb)))
  go_ret
  exact ⟨eqr, bs HB.out⟩
 ·replace O := Bool.eq_false_iff.mpr O
  subst O
  have H1 : (some false) = some r := by rw [if_neg (show ¬ (false = true) by decide)] at H; exact H
  clear H
  have H := H1
  clear H1
  obtain rfl := Option.some.inj H
  go_enter Try.func34, Try.ntmps34
  go_wp2_with (first | ((with_reducible refine gd 1 rfl ?_); refine bx 1 (cs := #[.slice D s.length G, .slice L z.length M]) (t := 34) ?_; intro aj hg ao hbox hb; have y := am hbox; have ak := gwb HB hg; replace HB := hs HB hb; clear hb hbox hg; obtain ⟨ax, ay⟩ := bc2 (w := ao) y.out; have az := blk_frozen y.out) | ((with_reducible refine gc 81 rfl ?_); refine gl 5 Try.func81 #[.slice D s.length G] ?_; (with_reducible refine (impl_nodesOk.calls k _ _ s false _ ?I ?J A2.out).mono ?_); (case I => exact Kd.C_below T.out (bs HB.out)); (case J => exact X.out); rintro e aA ⟨rfl, hb⟩; refine ⟨_, rfl, ?_⟩; replace y := bb y hb rfl; replace HB := hs HB hb; (try clear hb)))
  go_ret
  exact ⟨eqr, bs HB.out⟩

/-! ### impl_OpLabel: function 43 -/
mutual
def impl_OpLabel.j0 : Nat → Int → Bool → Int → Int → Int → Int → Int → Int → Int → Int → Option (Int)
 | 0, _, _, _, _, _, _, _, _, _, _ => none
 | k + 1, y, O, M, s, z, D, G, I, J, L => if O = true then ((impl_NodeOk.f s z).bind fun T => (if T = true then (if (D == 0 && ((G == 0 && (I == 0)) && ((J == 0 && (L == 0))))) = true then (some s) else (some (-1))) else (some (-1)))) else (if y = 2 then (impl_OpLabel.j1 k (y == 2) M s z D G I J L) else (impl_OpLabel.j1 k (y == 3) M s z D G I J L))
def impl_OpLabel.j1 : Nat → Bool → Int → Int → Int → Int → Int → Int → Int → Int → Option (Int)
 | 0, _, _, _, _, _, _, _, _, _ => none
 | k + 1, y, O, z, D, s, G, I, J, L => if y = true then ((impl_EdgeOk.f s G I J L).bind fun M => (if M = true then (if (z == 0 && (D == 0)) = true then (some s) else (some (-1))) else (some (-1)))) else (some (-1))
end
def impl_OpLabel.f (k : Nat) (s : Int) (y : Int) (z : Int) (D : Int) (G : Int) (I : Int) (J : Int) (L : Int) : Option (Int) := if s = 1 then (impl_OpLabel.j0 k s (s == 1) s y z D G I J L) else (impl_OpLabel.j0 k s (s == 4) s y z D G I J L)
theorem impl_OpLabel.calls (k : Nat) (G : Int) (z : Int) (I : Int) (D : Int) (J : Int) (L : Int) (M : Int) (O : Int) (r : Int) (w : World) (h : impl_OpLabel.f k G z I D J L M O = some r) :
  Calls Try.prog 43 #[.agg #[.int .i64 G, .int .i64 z, .int .i64 I, .int .i64 D, .int .i64 J, .int .i64 L, .int .i64 M, .int .i64 O]] w fun e w' => e = .returned (.int .i64 r) ∧ Below w.heap.size w w' := by
 have hu58 := Try.underlying58
 have hu36 := Try.underlying36
 have hu56 := Try.underlying56
 have HB := am (Below.refl w.heap.size w)
 have H := h; unfold impl_OpLabel.f at H
 clear h
 have ah := am H
 clear H
 go_enter Try.func43, Try.ntmps43
 go_upto_if 5 with (first | ((with_reducible refine gd 1 rfl ?_); refine bx 1 (cs := #[.int .i64 G, .int .i64 z, .int .i64 I, .int .i64 D, .int .i64 J, .int .i64 L, .int .i64 M, .int .i64 O]) (t := 58) ?_; intro ap hg w3 hbox hb; have y := am hbox; have bP := gwb HB hg; replace HB := hs HB hb; clear hb hbox hg; obtain ⟨aq, ar, au, av, aw, ax, ay, az⟩ := bc8 (w := w3) y.out; have aA := blk_frozen y.out))
 (try simp only [Act.put, List.setIfInBounds_toArray, List.set_cons_zero, List.set_cons_succ])
 go_cut [5] (fun v5 wc => ∃ (kq : Nat) (ac : Bool), v5 = .bool ac ∧ Aside0 (impl_OpLabel.j0 kq G ac G z I D J L M O = some r) ∧ Aside0 (kq ≤ k) ∧ Aside0 (wc.heap[ap]? = some (.cells #[.int .i64 G, .int .i64 z, .int .i64 I, .int .i64 D, .int .i64 J, .int .i64 L, .int .i64 M, .int .i64 O] 58 (0, 0))) ∧ Aside0 (Below w.heap.size w wc))
 case first =>
  have H := ah.out
  clear ah
  by_cases Y : G = 1
  ·rw [if_pos Y] at H
   have aa : (G == 1) = true := beq_iff_eq.mpr Y
   have ai : (G != 1) = false := bne_eq_false_iff_eq.mpr Y
   clear Y
   (first | rw [aa] | (simp only [i64_w, i32_w]; rw [aa]) | skip)
   have H' := am H
   clear H
   go_wp2
   go_meet
   case rel => exact ⟨_, ((G == 1)), eqs, H', ⟨by first | omega | exact Nat.le_refl _⟩, ⟨bf y.out⟩, ⟨bs HB.out⟩⟩
  ·rw [if_neg Y] at H
   have aa : (G == 1) = false := beq_eq_false_iff_ne.mpr Y
   have ai : (G != 1) = true := bne_iff_ne.mpr Y
   (first | rw [aa] | (simp only [i64_w, i32_w]; rw [aa]) | skip)
   have H' := am H
   clear H
   go_wp2
   go_meet
   case rel => exact ⟨_, ((G == 4)), eqs, H', ⟨by first | omega | exact Nat.le_refl _⟩, ⟨bf y.out⟩, ⟨bs HB.out⟩⟩
 case rest =>
  clear ah
  try clear p2
  try clear c4
  try clear Y
  try clear aa
  try clear ai
  try clear aq ar au av aw ax ay az
  try clear aA
  obtain ⟨kq, ac, rfl, HA, aB, y, HB⟩ := hcut
  cases kq with
  | zero => exact absurd HA.out (by simp [impl_OpLabel.j0])
  | succ aj =>
   have H := HA.out
   clear HA
   simp only [impl_OpLabel.j0] at H
   by_cases c6 : ac = true
   ·subst c6
    replace H : ((impl_NodeOk.f z I).bind fun ak => (if ak = true then (if (D == 0 && ((J == 0 && (L == 0)) && ((M == 0 && (O == 0))))) = true then (some z) else (some (-1))) else (some (-1)))) = some r := by rw [if_pos rfl] at H; exact H
    replace H := Option.bind_eq_some_iff.mp H
    obtain ⟨ak, aC, H⟩ := H
    try dsimp -simprocs only at H
    have A7 := am aC
    clear aC
    by_cases c8 : ak = true
    ·subst c8
     replace H : (if (D == 0 && ((J == 0 && (L == 0)) && ((M == 0 && (O == 0))))) = true then (some z) else (some (-1))) = some r := by rw [if_pos rfl] at H; exact H
     by_cases T : (D == 0 && ((J == 0 && (L == 0)) && ((M == 0 && (O == 0))))) = true
     ·rw [if_pos T] at H
      have aD : (D == 0 && ((J == 0 && (L == 0)) && ((M == 0 && (O == 0))))) = true := T
      (try (have aE : decide (D = 0 && ((J == 0 && (L == 0)) && ((M == 0 && (O == 0))))) = true := by simpa using T))
      (try (have aF : (D == 0 && ((J == 0 && (L == 0)) && ((M == 0 && (O == 0))))) = true := by simpa using T))
      clear T
      obtain rfl := Option.some.inj H
      obtain ⟨aI, aJ, aK, aL, aM, aN, aO, aP⟩ := bc8 (w := wc) y.out
      have aQ := blk_frozen y.out
      go_wp2_with (first | ((with_reducible refine gc 92 rfl ?_); refine gl 10 Try.func92 #[.agg #[.int .i64 z, .int .i64 I]] ?_; (with_reducible refine (impl_NodeOk.calls z I true _ A7.out).mono ?_); rintro e aR ⟨rfl, hb⟩; refine ⟨_, rfl, ?_⟩; replace y := bb y hb rfl; replace HB := hs HB hb; (try clear hb); obtain ⟨aS, aT, aU, aV, aW, aX, aY, aZ⟩ := bc8 (w := aR) y.out; have a8 := blk_frozen y.out))
      go_ret
      exact ⟨eqr, bs HB.out⟩
     ·rw [if_neg T] at H
      have aD : (D == 0 && ((J == 0 && (L == 0)) && ((M == 0 && (O == 0))))) = false := by simpa using T
      (try (have aE : decide (D = 0 && ((J == 0 && (L == 0)) && ((M == 0 && (O == 0))))) = false := by simpa using T))
      (try (have aF : (D == 0 && ((J == 0 && (L == 0)) && ((M == 0 && (O == 0))))) = false := by simpa using T))
      (try (have bQ : ¬ (D = 0 && ((J == 0 && (L == 0)) && ((M == 0 && (O == 0))))) := by simpa using T))
      clear T
      obtain rfl := Option.some.inj H
      obtain ⟨a9, ba, bc, be, bg, bh, bi, bj⟩ := bc8 (w := wc) y.out
      have bk := blk_frozen y.out
      go_wp2_with (first | ((with_reducible refine gc 92 rfl ?_); refine gl 10 Try.func92 #[.agg #[.int .i64 z, .int .i64 I]] ?_; (with_reducible refine (impl_NodeOk.calls z I true _ A7.out).mono ?_); rintro e bl ⟨rfl, hb⟩; refine ⟨_, rfl, ?_⟩; replace y := bb y hb rfl; replace HB := hs HB hb; (try clear hb); obtain ⟨bm, bn, bo, br, bt, bu, bv, bw⟩ := bc8 (w := bl) y.out; have bz := blk_frozen y.out))
      go_ret
      exact ⟨eqr, bs HB.out⟩
    ·replace c8 := Bool.eq_false_iff.mpr c8
     subst c8
     have H1 : (some (-1)) = some r := by rw [if_neg (show ¬ (false = true) by decide)] at H; exact H
     clear H
     have H := H1
     clear H1
     obtain rfl := Option.some.inj H
     obtain ⟨bA, bB, bC, bD, bE, bF, bG, bH⟩ := bc8 (w := wc) y.out
     have bI := blk_frozen y.out
     go_wp2_with (first | ((with_reducible refine gc 92 rfl ?_); refine gl 10 Try.func92 #[.agg #[.int .i64 z, .int .i64 I]] ?_; (with_reducible refine (impl_NodeOk.calls z I false _ A7.out).mono ?_); rintro e bR ⟨rfl, hb⟩; refine ⟨_, rfl, ?_⟩; replace y := bb y hb rfl; replace HB := hs HB hb; (try clear hb)))
     go_ret
     exact ⟨eqr, bs HB.out⟩
   ·replace c6 := Bool.eq_false_iff.mpr c6
    subst c6
    have H1 : (if G = 2 then (impl_OpLabel.j1 aj (G == 2) G z I D J L M O) else (impl_OpLabel.j1 aj (G == 3) G z I D J L M O)) = some r := by rw [if_neg (show ¬ (false = true) by decide)] at H; exact H
    clear H
    have H := H1
    clear H1
    have al := am H
    clear H
    go_upto_if 20 with (fail)
    go_cut [20] (fun bJ wc => ∃ (kq : Nat) (ae : Bool), bJ = .bool ae ∧ Aside0 (impl_OpLabel.j1 kq ae G z I D J L M O = some r) ∧ Aside0 (kq ≤ aj) ∧ Aside0 (wc.heap[ap]? = some (.cells #[.int .i64 G, .int .i64 z, .int .i64 I, .int .i64 D, .int .i64 J, .int .i64 L, .int .i64 M, .int .i64 O] 58 (0, 0))) ∧ Aside0 (Below w.heap.size w wc))
    case first =>
     have H := al.out
     clear al
     by_cases Z : G = 2
     ·rw [if_pos Z] at H
      have ab : (G == 2) = true := beq_iff_eq.mpr Z
      have aG : (G != 2) = false := bne_eq_false_iff_eq.mpr Z
      clear Z
      (first | rw [ab] | (simp only [i64_w, i32_w]; rw [ab]) | skip)
      have H' := am H
      clear H
      go_wp2
      go_meet
      case rel => exact ⟨_, ((G == 2)), eqs, H', ⟨by have := aB.out; first | omega | exact Nat.le_refl _⟩, ⟨bf y.out⟩, ⟨bs HB.out⟩⟩
     ·rw [if_neg Z] at H
      have ab : (G == 2) = false := beq_eq_false_iff_ne.mpr Z
      have aG : (G != 2) = true := bne_iff_ne.mpr Z
      (first | rw [ab] | (simp only [i64_w, i32_w]; rw [ab]) | skip)
      have H' := am H
      clear H
      go_wp2
      go_meet
      case rel => exact ⟨_, ((G == 3)), eqs, H', ⟨by have := aB.out; first | omega | exact Nat.le_refl _⟩, ⟨bf y.out⟩, ⟨bs HB.out⟩⟩
    case rest =>
     clear al
     try clear c1
     try clear p2
     try clear c4
     try clear Y
     try clear aa
     try clear ai
     try clear c6
     try clear c8
     try clear T
     try clear aD
     try clear aE
     try clear aF
     try clear Z
     try clear ab
     try clear aG
     try clear aI aJ aK aL aM aN aO aP
     try clear aS aT aU aV aW aX aY aZ
     try clear a9 ba bc be bg bh bi bj
     try clear bm bn bo br bt bu bv bw
     try clear bA bB bC bD bE bF bG bH
     try clear aq ar au av aw ax ay az
     try clear aQ
     try clear a8
     try clear bk
     try clear bz
     try clear bI
     try clear aA
     try clear p2
     obtain ⟨kq, ae, rfl, HA, bS, y, HB⟩ := hcut
     cases kq with
     | zero => exact absurd HA.out (by simp [impl_OpLabel.j1])
     | succ bT =>
      have H := HA.out
      clear HA
      simp only [impl_OpLabel.j1] at H
      by_cases af : ae = true
      ·subst af
       replace H : ((impl_EdgeOk.f D J L M O).bind fun an => (if an = true then (if (z == 0 && (I == 0)) = true then (some D) else (some (-1))) else (some (-1)))) = some r := by rw [if_pos rfl] at H; exact H
       replace H := Option.bind_eq_some_iff.mp H
       obtain ⟨an, aH, H⟩ := H
       try dsimp -simprocs only at H
       have ao := am aH
       clear aH
       by_cases ag : an = true
       ·subst ag
        replace H : (if (z == 0 && (I == 0)) = true then (some D) else (some (-1))) = some r := by rw [if_pos rfl] at H; exact H
        by_cases X : (z == 0 && (I == 0)) = true
        ·rw [if_pos X] at H
         have bK : (z == 0 && (I == 0)) = true := X
         (try (have bL : decide (z = 0 && (I == 0)) = true := by simpa using X))
         (try (have bM : (z == 0 && (I == 0)) = true := by simpa using X))
         clear X
         obtain rfl := Option.some.inj H
         obtain ⟨bU, bV, bW, bX, bY, bZ, b0, b1⟩ := bc8 (w := wc) y.out
         have b2 := blk_frozen y.out
         go_wp2_with (first | ((with_reducible refine gc 93 rfl ?_); refine gl 25 Try.func93 #[.agg #[.int .i64 D, .int .i64 J, .int .i64 L, .int .i64 M, .int .i64 O]] ?_; (with_reducible refine (impl_EdgeOk.calls D J L M O true _ ao.out).mono ?_); rintro e bN ⟨rfl, hb⟩; refine ⟨_, rfl, ?_⟩; replace y := bb y hb rfl; replace HB := hs HB hb; (try clear hb); obtain ⟨b3, b4, b5, b6, b7, b8, b9, ce⟩ := bc8 (w := bN) y.out; have cf := blk_frozen y.out))
         go_ret
         exact ⟨eqr, bs HB.out⟩
        ·rw [if_neg X] at H
         have bK : (z == 0 && (I == 0)) = false := by simpa using X
         (try (have bL : decide (z = 0 && (I == 0)) = false := by simpa using X))
         (try (have bM : (z == 0 && (I == 0)) = false := by simpa using X))
         (try (have cg : ¬ (z = 0 && (I == 0)) := by simpa using X))
         clear X
         obtain rfl := Option.some.inj H
         obtain ⟨ch, ci, cj, ck, cl, cm, cn, co⟩ := bc8 (w := wc) y.out
         have cp := blk_frozen y.out
         go_wp2_with (first | ((with_reducible refine gc 93 rfl ?_); refine gl 25 Try.func93 #[.agg #[.int .i64 D, .int .i64 J, .int .i64 L, .int .i64 M, .int .i64 O]] ?_; (with_reducible refine (impl_EdgeOk.calls D J L M O true _ ao.out).mono ?_); rintro e bO ⟨rfl, hb⟩; refine ⟨_, rfl, ?_⟩; replace y := bb y hb rfl; replace HB := hs HB hb; (try clear hb); obtain ⟨ct, cu, cv, cy, cz, cA, cB, cC⟩ := bc8 (w := bO) y.out; have cD := blk_frozen y.out))
         go_ret
         exact ⟨eqr, bs HB.out⟩
       ·replace ag := Bool.eq_false_iff.mpr ag
        subst ag
        have H1 : (some (-1)) = some r := by rw [if_neg (show ¬ (false = true) by decide)] at H; exact H
        clear H
        have H := H1
        clear H1
        obtain rfl := Option.some.inj H
        obtain ⟨cE, cF, cG, cH, cI, cJ, cK, cL⟩ := bc8 (w := wc) y.out
        have cM := blk_frozen y.out
        go_wp2_with (first | ((with_reducible refine gc 93 rfl ?_); refine gl 25 Try.func93 #[.agg #[.int .i64 D, .int .i64 J, .int .i64 L, .int .i64 M, .int .i64 O]] ?_; (with_reducible refine (impl_EdgeOk.calls D J L M O false _ ao.out).mono ?_); rintro e cN ⟨rfl, hb⟩; refine ⟨_, rfl, ?_⟩; replace y := bb y hb rfl; replace HB := hs HB hb; (try clear hb)))
        go_ret
        exact ⟨eqr, bs HB.out⟩
      ·replace af := Bool.eq_false_iff.mpr af
       subst af
       have H1 : (some (-1)) = some r := by rw [if_neg (show ¬ (false = true) by decide)] at H; exact H
       clear H
       have H := H1
       clear H1
       obtain rfl := Option.some.inj H
       go_wp2
       go_ret
       exact ⟨eqr, bs HB.out⟩

end Go.Proofs.Ytohmemckdogljaa.QFnExactGraphDo
