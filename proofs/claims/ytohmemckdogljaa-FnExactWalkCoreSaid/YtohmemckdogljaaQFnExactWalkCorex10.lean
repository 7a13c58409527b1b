/- Contracts of the Go functions that this law reaches: each does what its plain Lean function says. No condition. -/
import Derived.Test.YtohmemckdogljaaQFnExactWalkCorex0
import Derived.Test.YtohmemckdogljaaQFnExactWalkCorex9
namespace Go.Proofs.Ytohmemckdogljaa.QFnExactWalkCore
open Go.RowKit Go.Proofs.YtohmemckdogljaaW.PrintWords Go.Proofs.YtohmemckdogljaaW.PrintLast Go.Proofs.YtohmemckdogljaaW.PrintMore Go.Proofs.Ytohmemckdogljaa.Bl
attribute [local go_sem] max2_int min2_int max_two min_two max_three min_three max_four min_four   -- for this text's walks alone
set_option linter.unusedVariables false
set_option linter.unusedSimpArgs false
set_option maxHeartbeats 8000000
set_option maxRecDepth 100000

/-! ### impl_edgesOk: function 82 -/
def impl_edgesOk.l0 : Nat → List S56 → List S36 → List Int → Int → Option Bool
 | 0, _, _, _, _ => none
 | k + 1, es, ns, m, i => if i < (es.length : Int) then (if 0 ≤ i then (if EOk (rd_T56 es i).f0 (rd_T56 es i).f1.f0 (rd_T56 es i).f1.f1 (rd_T56 es i).f2.f0 (rd_T56 es i).f2.f1 = true then (if rd m (rd_T56 es i).f0 = 7 then some false else (if i > 0 then (if 0 ≤ wrap64 (i - 1) then (if wrap64 (i - 1) < (es.length : Int) then (impl_edgeOrder.f k (rd_T56 es (wrap64 (i - 1))).f0 (rd_T56 es (wrap64 (i - 1))).f1.f0 (rd_T56 es (wrap64 (i - 1))).f1.f1 (rd_T56 es (wrap64 (i - 1))).f2.f0 (rd_T56 es (wrap64 (i - 1))).f2.f1 (rd_T56 es i).f0 (rd_T56 es i).f1.f0 (rd_T56 es i).f1.f1 (rd_T56 es i).f2.f0 (rd_T56 es i).f2.f1).bind fun t => if t ≥ 0 then some false else ((impl_nodeThere.f k ns (rd_T56 es i).f1.f0 (rd_T56 es i).f1.f1).bind fun s => if s = true then (impl_nodeThere.f k ns (rd_T56 es i).f2.f0 (rd_T56 es i).f2.f1).bind fun D => if D = true then impl_edgesOk.l0 k es ns (m.set ((rd_T56 es i).f0).toNat (wrap64 (rd m (rd_T56 es i).f0 + 1))) (wrap64 (i + 1)) else some false else some false) else none) else none) else ((impl_nodeThere.f k ns (rd_T56 es i).f1.f0 (rd_T56 es i).f1.f1).bind fun s => if s = true then (impl_nodeThere.f k ns (rd_T56 es i).f2.f0 (rd_T56 es i).f2.f1).bind fun D => if D = true then impl_edgesOk.l0 k es ns (m.set ((rd_T56 es i).f0).toNat (wrap64 (rd m (rd_T56 es i).f0 + 1))) (wrap64 (i + 1)) else some false else some false))) else some false) else none) else some true
def impl_edgesOk.f (k : Nat) (l0 : List S56) (l1 : List S36) : Option Bool := impl_edgesOk.l0 k l0 l1 [0, 0, 0, 0, 0, 0, 0, 0] 0
theorem impl_edgesOk.calls (k : Nat) (A0 : Option Addr) (c0 : Nat) (l0 : List S56) (A1 : Option Addr) (c1 : Nat) (l1 : List S36) (r : Bool) (w : World) (aC : Kd.C k56 w A0 l0.length l0) (aD : l0.length ≤ c0) (aE : Kd.C k36 w A1 l1.length l1) (aF : l1.length ≤ c1) (h : impl_edgesOk.f k l0 l1 = some r) :
  Calls Try.prog 82 #[.slice A0 l0.length c0, .slice A1 l1.length c1] w fun e w' => e = .returned (.bool r) ∧ Below w.heap.size w w' := by
 have hu36 := Try.underlying36
 have hu56 := Try.underlying56
 have hu122 := Try.underlying122
 have aB := am aC
 have a7 := am aD
 have ay := am aE
 have az := am aF
 clear aC aD aE aF
 have HB := am (Below.refl w.heap.size w)
 have H' := am (show impl_edgesOk.l0 k l0 l1 [0, 0, 0, 0, 0, 0, 0, 0] 0 = some r from h)
 clear h
 go_enter Try.func82, Try.ntmps82
 go_wp2_with (first | ((with_reducible refine gd 5 rfl ?_); refine bx 5 (cs := cts [0, 0, 0, 0, 0, 0, 0, 0]) (t := 122) ?_; intro gb hg w3 hbox hb; have BK := am hbox; have GE := Ge.mk ((by rw [hg]; exact (below_size (bs HB.out)) : w.heap.size ≤ gb)); replace HB := am (below_step HB.out hb); clear hg hb hbox))
 go_loopg [10] k (fun kq aU w' => ∃ (G : Int) (m : List Int), aU = .int .i64 G ∧ Aside0 (impl_edgesOk.l0 kq l0 l1 m G = some r) ∧ Aside0 (m.length = 8) ∧ Aside0 (kq ≤ k) ∧ Aside0 (w'.heap[gb]? = some (.cells (cts m) 122 (0, 0))) ∧ Aside0 (Below w.heap.size w w'))
 case atStart => exact ⟨0, [0, 0, 0, 0, 0, 0, 0, 0], eqs, H', ⟨rfl⟩, ⟨Nat.le_refl _⟩, ⟨bf BK.out⟩, ⟨bs HB.out⟩⟩
 case round =>
  clear H'
  obtain ⟨G, m, rfl, HA, HM, aA, BK, HB⟩ := hrel
  cases gk with
  | zero => exact absurd HA.out (by simp [impl_edgesOk.l0])
  | succ k1 =>
   have H := HA.out
   clear HA
   simp only [impl_edgesOk.l0] at H
   by_cases c1 : G < (l0.length : Int)
   ·rw [if_pos c1] at H
    have aV : decide (G < (l0.length : Int)) = true := decide_eq_true c1
    by_cases c2 : 0 ≤ G
    ·rw [if_pos c2] at H
     have p0 := c2
     have q0 := c1
     obtain ⟨ad, ea, an, ao, ap, aq, ar⟩ := at_T56 aB.out G p0 q0
     cases ea
     have CX := am (show 0 ≤ G ∧ G < (l0.length : Int) from ⟨c2, c1⟩)
     replace an := cb HB an
     replace ao := cb HB ao
     replace ap := cb HB ap
     replace aq := cb HB aq
     replace ar := cb HB ar
     replace p0 := eq_true p0
     replace q0 := eq_true q0
     clear c1 c2
     generalize (rd_T56 l0 G).f0 = D at H an ao ap aq ar
     generalize (rd_T56 l0 G).f1.f0 = O at H an ao ap aq ar
     generalize (rd_T56 l0 G).f1.f1 = X at H an ao ap aq ar
     generalize (rd_T56 l0 G).f2.f0 = T at H an ao ap aq ar
     generalize (rd_T56 l0 G).f2.f1 = Y at H an ao ap aq ar
     go_wp2_with (first | ((with_reducible refine gd 7 rfl ?_); refine bx 7 (cs := #[.int .i64 0, .int .i64 0, .int .i64 0, .int .i64 0, .int .i64 0]) (t := 56) ?_; intro gn hg w5 hbox hb; have BN := am hbox; have GN := am ((by rw [hg]; exact (below_size (bs HB.out)) : w.heap.size ≤ gn)); replace HB := hs HB hb; have NE := am ((by rw [hg]; exact Nat.ne_of_lt (blk_lt (g := gb) (bf BK.out)) : gb ≠ gn)); replace BK := am (blk_below (g := gb) (bf BK.out) hb); clear hb hbox hg; have aa : w5.cell? ⟨gn, 0, none⟩ = some (.int .i64 0) := (blk_cell BN.out 0).trans rfl; have ab : w5.cell? ⟨gn, 1, none⟩ = some (.int .i64 0) := (blk_cell BN.out 1).trans rfl; have ac : w5.cell? ⟨gn, 2, none⟩ = some (.int .i64 0) := (blk_cell BN.out 2).trans rfl; have ae : w5.cell? ⟨gn, 3, none⟩ = some (.int .i64 0) := (blk_cell BN.out 3).trans rfl; have af : w5.cell? ⟨gn, 4, none⟩ = some (.int .i64 0) := (blk_cell BN.out 4).trans rfl; have aW := blk_frozen BN.out 0; have aX := blk_frozen BN.out 1; have aY := blk_frozen BN.out 2; have aZ := blk_frozen BN.out 3; have a2 := blk_frozen BN.out 4))
     have I := am (blk_far (blk_far (blk_far (blk_far (blk_far (BK.out) (p := ⟨gn, 0, none⟩) NE.out (.int .i64 D)) (p := ⟨gn, 1, none⟩) NE.out (.int .i64 O)) (p := ⟨gn, 2, none⟩) NE.out (.int .i64 X)) (p := ⟨gn, 3, none⟩) NE.out (.int .i64 T)) (p := ⟨gn, 4, none⟩) NE.out (.int .i64 Y))
     have J := am (blk_put (cs' := #[.int .i64 D, .int .i64 O, .int .i64 X, .int .i64 T, .int .i64 Y]) (blk_put (cs' := #[.int .i64 D, .int .i64 O, .int .i64 X, .int .i64 T, .int .i64 0]) (blk_put (cs' := #[.int .i64 D, .int .i64 O, .int .i64 X, .int .i64 0, .int .i64 0]) (blk_put (cs' := #[.int .i64 D, .int .i64 O, .int .i64 0, .int .i64 0, .int .i64 0]) (blk_put (cs' := #[.int .i64 D, .int .i64 0, .int .i64 0, .int .i64 0, .int .i64 0]) (BN.out) 0 (.int .i64 D) rfl) 1 (.int .i64 O) rfl) 2 (.int .i64 X) rfl) 3 (.int .i64 T) rfl) 4 (.int .i64 Y) rfl)
     have L := am (below_set (j := 4) (v := .int .i64 Y) (below_set (j := 3) (v := .int .i64 T) (below_set (j := 2) (v := .int .i64 X) (below_set (j := 1) (v := .int .i64 O) (below_set (j := 0) (v := .int .i64 D) (HB.out) GN.out) GN.out) GN.out) GN.out) GN.out)
     clear BK BN HB aa aW ab aX ac aY ae aZ af a2
     have BK := I
     have BN := J
     have HB := L
     clear I J L
     generalize (((((w5).setCell ⟨gn, 0, none⟩ (.int .i64 D)).setCell ⟨gn, 1, none⟩ (.int .i64 O)).setCell ⟨gn, 2, none⟩ (.int .i64 X)).setCell ⟨gn, 3, none⟩ (.int .i64 T)).setCell ⟨gn, 4, none⟩ (.int .i64 Y) = w6 at BK BN HB ⊢
     refine (impl_EdgeOk.calls D O X T Y (EOk D O X T Y) _ rfl).mono ?_
     rintro e Z ⟨rfl, hb⟩
     have I := am (blk_below BK.out hb)
     have J := am (blk_below BN.out hb)
     have L := am (below_step (bs HB.out) hb)
     clear BK BN HB hb
     have BK := I
     have BN := J
     have HB := L
     clear I J L
     have aa : Z.cell? ⟨gn, 0, none⟩ = some (.int .i64 D) := (blk_cell BN.out 0).trans rfl
     have ab : Z.cell? ⟨gn, 1, none⟩ = some (.int .i64 O) := (blk_cell BN.out 1).trans rfl
     have ac : Z.cell? ⟨gn, 2, none⟩ = some (.int .i64 X) := (blk_cell BN.out 2).trans rfl
     have ae : Z.cell? ⟨gn, 3, none⟩ = some (.int .i64 T) := (blk_cell BN.out 3).trans rfl
     have af : Z.cell? ⟨gn, 4, none⟩ = some (.int .i64 Y) := (blk_cell BN.out 4).trans rfl
     by_cases c3 : EOk D O X T Y = true
     ·rw [if_pos c3] at H
      have HL := am (EOk_l c3)
      obtain ⟨j0, aG⟩ := Int.eq_ofNat_of_zero_le HL.out.1
      have aH : Z.cell? ⟨gb, j0, none⟩ = some (.int .i64 (rd m D)) := by rw [aG]; exact (blk_cell BK.out j0).trans (cts_get m j0 (by have := HM.out; have := HL.out.2; omega))
      have htn : (D : Int).toNat = j0 := by omega
      have hcm : Z.cell? ⟨gb, (D : Int).toNat, none⟩ = some (.int .i64 (rd m D)) := by rw [htn]; exact aH
      have hfm := blk_frozen BK.out (D : Int).toNat
      have hlo : (0 ≤ D) = True := eq_true HL.out.1
      have hhi : (D < 8) = True := eq_true (by have := HL.out.2; omega)
      have aI : (D : Int).toNat < 8 := by have := HL.out; omega
      clear aG aH htn j0
      by_cases c4 : rd m D = 7
      ·rw [if_pos c4] at H
       have a3 : (rd m D == 7) = true := beq_iff_eq.mpr c4
       clear c4
       obtain rfl := Option.some.inj H
       go_wp2
       go_ret
       exact ⟨eqs, bs HB.out⟩
      ·rw [if_neg c4] at H
       have a3 : (rd m D == 7) = false := beq_eq_false_iff_ne.mpr c4
       clear c4
       by_cases c5 : G > 0
       ·rw [if_pos c5] at H
        have a4 : decide (0 < G) = true := decide_eq_true c5
        have hwr : wrap64 (G - 1) = G - 1 := w64 (by have := CX.out; have := aB.out.2.1; omega)
        rw [hwr] at H
        rw [if_pos (show 0 ≤ G - 1 by omega), if_pos (show G - 1 < (l0.length : Int) by have := CX.out; omega)] at H
        obtain ⟨q, hq⟩ : ∃ q, G - 1 = q := ⟨_, rfl⟩
        have hqw : wrap64 (G - 1) = q := hwr.trans hq
        rw [hq] at H
        have p1 : 0 ≤ q := by omega
        have q1 : q < (l0.length : Int) := by have := CX.out; omega
        obtain ⟨ad', ea', ag, ah, ai, aj, ak⟩ := at_T56 aB.out q p1 q1
        obtain rfl : ad = ad' := by injection ea'
        clear ea' hwr
        replace hq := am hq
        replace ag : Z.cell? (ad.add (q.toNat * 5)) = some (.int .i64 (rd_T56 l0 q).f0) := cb HB ag
        replace ah : Z.cell? ⟨(ad.add (q.toNat * 5)).block, (ad.add (q.toNat * 5)).off + 1, none⟩ = some (.int .i64 (rd_T56 l0 q).f1.f0) := cb HB ah
        replace ai : Z.cell? ⟨(ad.add (q.toNat * 5)).block, (ad.add (q.toNat * 5)).off + 2, none⟩ = some (.int .i64 (rd_T56 l0 q).f1.f1) := cb HB ai
        replace aj : Z.cell? ⟨(ad.add (q.toNat * 5)).block, (ad.add (q.toNat * 5)).off + 3, none⟩ = some (.int .i64 (rd_T56 l0 q).f2.f0) := cb HB aj
        replace ak : Z.cell? ⟨(ad.add (q.toNat * 5)).block, (ad.add (q.toNat * 5)).off + 4, none⟩ = some (.int .i64 (rd_T56 l0 q).f2.f1) := cb HB ak
        replace p1 := eq_true p1
        replace q1 := eq_true q1
        generalize (rd_T56 l0 q).f0 = d0 at H ag ah ai aj ak
        generalize (rd_T56 l0 q).f1.f0 = d1 at H ag ah ai aj ak
        generalize (rd_T56 l0 q).f1.f1 = d2 at H ag ah ai aj ak
        generalize (rd_T56 l0 q).f2.f0 = d3 at H ag ah ai aj ak
        generalize (rd_T56 l0 q).f2.f1 = d4 at H ag ah ai aj ak
        replace H := Option.bind_eq_some_iff.mp H
        obtain ⟨t, aJ, H⟩ := H
        have A3 := am aJ
        clear aJ
        go_wp2
        refine wp_region_bel (by kernel_rfl) (by kernel_rfl) ?_
        clear aa ab ac ae af hcm hfm hlo hhi aI
        replace BK := bd BK
        replace BN := am (blk_drew BN.out)
        replace HB := hd HB
        replace ag : Z.drew.cell? (ad.add (q.toNat * 5)) = some (.int .i64 d0) := ag
        replace ah : Z.drew.cell? ⟨(ad.add (q.toNat * 5)).block, (ad.add (q.toNat * 5)).off + 1, none⟩ = some (.int .i64 d1) := ah
        replace ai : Z.drew.cell? ⟨(ad.add (q.toNat * 5)).block, (ad.add (q.toNat * 5)).off + 2, none⟩ = some (.int .i64 d2) := ai
        replace aj : Z.drew.cell? ⟨(ad.add (q.toNat * 5)).block, (ad.add (q.toNat * 5)).off + 3, none⟩ = some (.int .i64 d3) := aj
        replace ak : Z.drew.cell? ⟨(ad.add (q.toNat * 5)).block, (ad.add (q.toNat * 5)).off + 4, none⟩ = some (.int .i64 d4) := ak
        generalize Z.drew = w8 at BK BN HB ag ah ai aj ak ⊢
        have aK : ∀ p : Bel w8, p.v.cell? (ad.add (q.toNat * 5)) = some (.int .i64 d0) := fun p => cell_bel ag p
        have aL : ∀ p : Bel w8, p.v.cell? ⟨(ad.add (q.toNat * 5)).block, (ad.add (q.toNat * 5)).off + 1, none⟩ = some (.int .i64 d1) := fun p => cell_bel ah p
        have aM : ∀ p : Bel w8, p.v.cell? ⟨(ad.add (q.toNat * 5)).block, (ad.add (q.toNat * 5)).off + 2, none⟩ = some (.int .i64 d2) := fun p => cell_bel ai p
        have aN : ∀ p : Bel w8, p.v.cell? ⟨(ad.add (q.toNat * 5)).block, (ad.add (q.toNat * 5)).off + 3, none⟩ = some (.int .i64 d3) := fun p => cell_bel aj p
        have aO : ∀ p : Bel w8, p.v.cell? ⟨(ad.add (q.toNat * 5)).block, (ad.add (q.toNat * 5)).off + 4, none⟩ = some (.int .i64 d4) := fun p => cell_bel ak p
        clear ag ah ai aj ak
        have aP : ∀ p : Bel w8, p.v.cell? ⟨gn, 0, none⟩ = some (.int .i64 D) := fun p => cell_bel ((blk_cell BN.out 0).trans rfl) p
        have aQ : ∀ p : Bel w8, p.v.cell? ⟨gn, 1, none⟩ = some (.int .i64 O) := fun p => cell_bel ((blk_cell BN.out 1).trans rfl) p
        have aR : ∀ p : Bel w8, p.v.cell? ⟨gn, 2, none⟩ = some (.int .i64 X) := fun p => cell_bel ((blk_cell BN.out 2).trans rfl) p
        have aS : ∀ p : Bel w8, p.v.cell? ⟨gn, 3, none⟩ = some (.int .i64 T) := fun p => cell_bel ((blk_cell BN.out 3).trans rfl) p
        have aT : ∀ p : Bel w8, p.v.cell? ⟨gn, 4, none⟩ = some (.int .i64 Y) := fun p => cell_bel ((blk_cell BN.out 4).trans rfl) p
        by_cases c6 : t ≥ 0
        ·rw [if_pos c6] at H
         have a5 : decide (0 ≤ t) = true := decide_eq_true c6
         clear c6
         repeat (go_big_quiet_step (with_reducible exact calls_bel (impl_edgeOrder.calls k1 d0 d1 d2 d3 d4 D O X T Y t _ A3.out)))
         refine wpQuiet_nil ?_
         intro w9 hw'
         obtain ⟨⟨wq_, hb⟩, hw''⟩ := hw'
         subst hw''
         clear aK aL aM aN aO aP aQ aR aS aT hqw
         have I := am (blk_below BK.out hb)
         have J := am (blk_below BN.out hb)
         have L := am (below_step (bs HB.out) hb)
         clear BK BN HB hb
         have BK := I
         have BN := J
         have HB := L
         clear I J L
         obtain rfl := Option.some.inj H
         go_wp2
         go_ret
         exact ⟨eqs, bs HB.out⟩
        ·rw [if_neg c6] at H
         have a5 : decide (0 ≤ t) = false := decide_eq_false c6
         clear c6
         repeat (go_big_quiet_step (with_reducible exact calls_bel (impl_edgeOrder.calls k1 d0 d1 d2 d3 d4 D O X T Y t _ A3.out)))
         refine wpQuiet_nil ?_
         intro w9 hw'
         obtain ⟨⟨wq_, hb⟩, hw''⟩ := hw'
         subst hw''
         clear aK aL aM aN aO aP aQ aR aS aT hqw
         have I := am (blk_below BK.out hb)
         have J := am (blk_below BN.out hb)
         have L := am (below_step (bs HB.out) hb)
         clear BK BN HB hb
         have BK := I
         have BN := J
         have HB := L
         clear I J L
         replace H := Option.bind_eq_some_iff.mp H
         obtain ⟨t1, av, H⟩ := H
         have A1 := am av
         clear av
         have aa : w9.cell? ⟨gn, 0, none⟩ = some (.int .i64 D) := (blk_cell BN.out 0).trans rfl
         have ab : w9.cell? ⟨gn, 1, none⟩ = some (.int .i64 O) := (blk_cell BN.out 1).trans rfl
         have ac : w9.cell? ⟨gn, 2, none⟩ = some (.int .i64 X) := (blk_cell BN.out 2).trans rfl
         have ae : w9.cell? ⟨gn, 3, none⟩ = some (.int .i64 T) := (blk_cell BN.out 3).trans rfl
         have af : w9.cell? ⟨gn, 4, none⟩ = some (.int .i64 Y) := (blk_cell BN.out 4).trans rfl
         go_wp2_with fail
         refine (impl_nodeThere.calls k1 _ _ l1 O X t1 _ ?au az.out A1.out).mono ?_
         case au => exact Kd.C_below ay.out (bs HB.out)
         rintro e al ⟨rfl, hb⟩
         clear aa ab ac ae af
         have I := am (blk_below BK.out hb)
         have J := am (blk_below BN.out hb)
         have L := am (below_step (bs HB.out) hb)
         clear BK BN HB hb
         have BK := I
         have BN := J
         have HB := L
         clear I J L
         by_cases c7 : t1 = true
         ·subst c7
          replace H : ((impl_nodeThere.f k1 l1 T Y).bind fun t2 => if t2 = true then impl_edgesOk.l0 k1 l0 l1 (m.set (D : Int).toNat (wrap64 (rd m D + 1))) (wrap64 (G + 1)) else some false) = some r := by rw [if_pos rfl] at H; exact H
          replace H := Option.bind_eq_some_iff.mp H
          obtain ⟨t2, aw, H⟩ := H
          have A2 := am aw
          clear aw
          have aa : al.cell? ⟨gn, 0, none⟩ = some (.int .i64 D) := (blk_cell BN.out 0).trans rfl
          have ab : al.cell? ⟨gn, 1, none⟩ = some (.int .i64 O) := (blk_cell BN.out 1).trans rfl
          have ac : al.cell? ⟨gn, 2, none⟩ = some (.int .i64 X) := (blk_cell BN.out 2).trans rfl
          have ae : al.cell? ⟨gn, 3, none⟩ = some (.int .i64 T) := (blk_cell BN.out 3).trans rfl
          have af : al.cell? ⟨gn, 4, none⟩ = some (.int .i64 Y) := (blk_cell BN.out 4).trans rfl
          go_wp2_with fail
          refine (impl_nodeThere.calls k1 _ _ l1 T Y t2 _ ?au az.out A2.out).mono ?_
          case au => exact Kd.C_below ay.out (bs HB.out)
          rintro e ax ⟨rfl, hb⟩
          clear aa ab ac ae af
          have I := am (blk_below BK.out hb)
          have J := am (blk_below BN.out hb)
          have L := am (below_step (bs HB.out) hb)
          clear BK BN HB hb
          have BK := I
          have BN := J
          have HB := L
          clear I J L
          by_cases c8 : t2 = true
          ·subst c8
           replace H : impl_edgesOk.l0 k1 l0 l1 (m.set (D : Int).toNat (wrap64 (rd m D + 1))) (wrap64 (G + 1)) = some r := by rw [if_pos rfl] at H; exact H
           have H' := am H
           clear H
           obtain ⟨j, rfl⟩ := Int.eq_ofNat_of_zero_le HL.out.1
           have aa : ax.cell? ⟨gn, 0, none⟩ = some (.int .i64 (j : Int)) := (blk_cell BN.out 0).trans rfl
           have a6 : j < 8 := by have := HL.out.2; omega
           have hjm : j < m.length := by have := HM.out; omega
           have hcm : ax.cell? ⟨gb, j, none⟩ = some (.int .i64 (rd m j)) := (blk_cell BK.out j).trans (cts_get m j hjm)
           have hfm := blk_frozen BK.out j
           have hlo : (0 ≤ (j : Int)) = True := eq_true (by omega)
           have hhi : ((j : Int) < 8) = True := eq_true (by omega)
           go_wp2
           go_roundg k1
           case measure => have := aA.out; omega
           case rel => exact ⟨wrap64 (G + 1), m.set j (wrap64 (rd m (j : Int) + 1)), eqs, ⟨by simpa using H'.out⟩, ⟨by simpa using HM.out⟩, ⟨by have := aA.out; omega⟩, ⟨by refine blk_put ?_ j _ (cts_set m j _); exact bf BK.out⟩, ⟨bs HB.out⟩⟩
          ·replace c8 := Bool.eq_false_iff.mpr c8
           subst c8
           replace H : some false = some r := by rw [if_neg (by decide)] at H; exact H
           obtain rfl := Option.some.inj H
           go_wp2
           go_ret
           exact ⟨eqs, bs HB.out⟩
         ·replace c7 := Bool.eq_false_iff.mpr c7
          subst c7
          replace H : some false = some r := by rw [if_neg (by decide)] at H; exact H
          obtain rfl := Option.some.inj H
          go_wp2
          go_ret
          exact ⟨eqs, bs HB.out⟩
       ·rw [if_neg c5] at H
        have a4 : decide (0 < G) = false := decide_eq_false c5
        clear c5
        go_wp2
        refine wp_region_bel (by kernel_rfl) (by kernel_rfl) ?_
        clear aa ab ac ae af hcm hfm hlo hhi aI
        replace BK := bd BK
        replace BN := am (blk_drew BN.out)
        replace HB := hd HB
        generalize Z.drew = w8 at BK BN HB ⊢
        repeat (go_big_quiet_step (fail))
        refine wpQuiet_nil ?_
        intro w9 hw'
        obtain ⟨⟨wq_, hb⟩, hw''⟩ := hw'
        subst hw''
        have I := am (blk_below BK.out hb)
        have J := am (blk_below BN.out hb)
        have L := am (below_step (bs HB.out) hb)
        clear BK BN HB hb
        have BK := I
        have BN := J
        have HB := L
        clear I J L
        replace H := Option.bind_eq_some_iff.mp H
        obtain ⟨t1, av, H⟩ := H
        have A1 := am av
        clear av
        have aa : w9.cell? ⟨gn, 0, none⟩ = some (.int .i64 D) := (blk_cell BN.out 0).trans rfl
        have ab : w9.cell? ⟨gn, 1, none⟩ = some (.int .i64 O) := (blk_cell BN.out 1).trans rfl
        have ac : w9.cell? ⟨gn, 2, none⟩ = some (.int .i64 X) := (blk_cell BN.out 2).trans rfl
        have ae : w9.cell? ⟨gn, 3, none⟩ = some (.int .i64 T) := (blk_cell BN.out 3).trans rfl
        have af : w9.cell? ⟨gn, 4, none⟩ = some (.int .i64 Y) := (blk_cell BN.out 4).trans rfl
        go_wp2_with fail
        refine (impl_nodeThere.calls k1 _ _ l1 O X t1 _ ?au az.out A1.out).mono ?_
        case au => exact Kd.C_below ay.out (bs HB.out)
        rintro e al ⟨rfl, hb⟩
        clear aa ab ac ae af
        have I := am (blk_below BK.out hb)
        have J := am (blk_below BN.out hb)
        have L := am (below_step (bs HB.out) hb)
        clear BK BN HB hb
        have BK := I
        have BN := J
        have HB := L
        clear I J L
        by_cases c7 : t1 = true
        ·subst c7
         replace H : ((impl_nodeThere.f k1 l1 T Y).bind fun t2 => if t2 = true then impl_edgesOk.l0 k1 l0 l1 (m.set (D : Int).toNat (wrap64 (rd m D + 1))) (wrap64 (G + 1)) else some false) = some r := by rw [if_pos rfl] at H; exact H
         replace H := Option.bind_eq_some_iff.mp H
         obtain ⟨t2, aw, H⟩ := H
         have A2 := am aw
         clear aw
         have aa : al.cell? ⟨gn, 0, none⟩ = some (.int .i64 D) := (blk_cell BN.out 0).trans rfl
         have ab : al.cell? ⟨gn, 1, none⟩ = some (.int .i64 O) := (blk_cell BN.out 1).trans rfl
         have ac : al.cell? ⟨gn, 2, none⟩ = some (.int .i64 X) := (blk_cell BN.out 2).trans rfl
         have ae : al.cell? ⟨gn, 3, none⟩ = some (.int .i64 T) := (blk_cell BN.out 3).trans rfl
         have af : al.cell? ⟨gn, 4, none⟩ = some (.int .i64 Y) := (blk_cell BN.out 4).trans rfl
         go_wp2_with fail
         refine (impl_nodeThere.calls k1 _ _ l1 T Y t2 _ ?au az.out A2.out).mono ?_
         case au => exact Kd.C_below ay.out (bs HB.out)
         rintro e ax ⟨rfl, hb⟩
         clear aa ab ac ae af
         have I := am (blk_below BK.out hb)
         have J := am (blk_below BN.out hb)
         have L := am (below_step (bs HB.out) hb)
         clear BK BN HB hb
         have BK := I
         have BN := J
         have HB := L
         clear I J L
         by_cases c8 : t2 = true
         ·subst c8
          replace H : impl_edgesOk.l0 k1 l0 l1 (m.set (D : Int).toNat (wrap64 (rd m D + 1))) (wrap64 (G + 1)) = some r := by rw [if_pos rfl] at H; exact H
          have H' := am H
          clear H
          obtain ⟨j, rfl⟩ := Int.eq_ofNat_of_zero_le HL.out.1
          have aa : ax.cell? ⟨gn, 0, none⟩ = some (.int .i64 (j : Int)) := (blk_cell BN.out 0).trans rfl
          have a6 : j < 8 := by have := HL.out.2; omega
          have hjm : j < m.length := by have := HM.out; omega
          have hcm : ax.cell? ⟨gb, j, none⟩ = some (.int .i64 (rd m j)) := (blk_cell BK.out j).trans (cts_get m j hjm)
          have hfm := blk_frozen BK.out j
          have hlo : (0 ≤ (j : Int)) = True := eq_true (by omega)
          have hhi : ((j : Int) < 8) = True := eq_true (by omega)
          go_wp2
          go_roundg k1
          case measure => have := aA.out; omega
          case rel => exact ⟨wrap64 (G + 1), m.set j (wrap64 (rd m (j : Int) + 1)), eqs, ⟨by simpa using H'.out⟩, ⟨by simpa using HM.out⟩, ⟨by have := aA.out; omega⟩, ⟨by refine blk_put ?_ j _ (cts_set m j _); exact bf BK.out⟩, ⟨bs HB.out⟩⟩
         ·replace c8 := Bool.eq_false_iff.mpr c8
          subst c8
          replace H : some false = some r := by rw [if_neg (by decide)] at H; exact H
          obtain rfl := Option.some.inj H
          go_wp2
          go_ret
          exact ⟨eqs, bs HB.out⟩
        ·replace c7 := Bool.eq_false_iff.mpr c7
         subst c7
         replace H : some false = some r := by rw [if_neg (by decide)] at H; exact H
         obtain rfl := Option.some.inj H
         go_wp2
         go_ret
         exact ⟨eqs, bs HB.out⟩
     ·rw [if_neg c3] at H
      replace c3 := Bool.eq_false_iff.mpr c3
      obtain rfl := Option.some.inj H
      rw [c3]
      go_wp2
      go_ret
      exact ⟨eqs, bs HB.out⟩
    ·rw [if_neg c2] at H; cases H
   ·rw [if_neg c1] at H
    have aV : decide (G < (l0.length : Int)) = false := decide_eq_false c1
    clear c1
    obtain rfl := Option.some.inj H
    go_wp2
    go_ret
    exact ⟨eqs, bs HB.out⟩

/-! ### impl_GraphOk: function 34 -/
def impl_GraphOk.f (k : Nat) (s : List (S36)) (D : List (S56)) : Option (Bool) := (impl_nodesOk.f k s).bind fun G => (if G = true then ((impl_edgesOk.f k D s).bind fun I => (some I)) else (some false))
theorem impl_GraphOk.calls (k : Nat) (I : Option Addr) (J : Nat) (s : List (S36)) (T : Option Addr) (X : Nat) (G : List (S56)) (r : Bool) (w : World) (ac : Kd.C k36 w I s.length s) (ae : s.length ≤ J) (af : Kd.C k56 w T G.length G) (ag : G.length ≤ X) (h : impl_GraphOk.f k s G = some r) :
  Calls Try.prog 34 #[.agg #[.slice I s.length J, .slice T G.length X]] w fun e w' => e = .returned (.bool r) ∧ Below w.heap.size w w' := by
 have hu34 := Try.underlying34
 have Z := am ac
 have aa := am ae
 clear ac ae
 have aj := am af
 have ak := am ag
 clear af ag
 have HB := am (Below.refl w.heap.size w)
 have H := h; unfold impl_GraphOk.f at H
 clear h
 replace H := Option.bind_eq_some_iff.mp H
 obtain ⟨al, ah, H⟩ := H
 try dsimp -simprocs only at H
 have A2 := am ah
 clear ah
 by_cases Y : al = true
 ·subst Y
  replace H : ((impl_edgesOk.f k G s).bind fun ab => (some ab)) = some r := by rw [if_pos rfl] at H; exact H
  replace H := Option.bind_eq_some_iff.mp H
  obtain ⟨ab, ai, H⟩ := H
  try dsimp -simprocs only at H
  have A4 := am ai
  clear ai
  obtain rfl := Option.some.inj H
  go_enter Try.func34, Try.ntmps34
  go_wp2_with (first | ((with_reducible refine gd 1 rfl ?_); refine bx 1 (cs := #[.slice I s.length J, .slice T G.length X]) (t := 34) ?_; intro an hg w5 hbox hb; have D := am hbox; have ao := gwb HB hg; replace HB := hs HB hb; clear hb hbox hg; obtain ⟨au, av⟩ := bc2 (w := w5) D.out; have aw := blk_frozen D.out) | ((with_reducible refine gc 81 rfl ?_); refine gl 5 Try.func81 #[.slice I s.length J] ?_; (with_reducible refine (impl_nodesOk.calls k _ _ s true _ ?L ?O A2.out).mono ?_); (case L => exact Kd.C_below Z.out (bs HB.out)); (case O => exact aa.out); rintro e w7 ⟨rfl, hb⟩; refine ⟨_, rfl, ?_⟩; replace D := bb D hb rfl; replace HB := hs HB hb; (try clear hb); obtain ⟨ax, ay⟩ := bc2 (w := w7) D.out; have az := blk_frozen D.out) | (go_at_call 82; (with_reducible refine (impl_edgesOk.calls k _ _ G _ _ s ab _ ?L ?O ?ap ?aq A4.out).mono ?_); (case L => exact Kd.C_below aj.out (bs HB.out)); (case O => exact ak.out); (case ap => exact Kd.C_below Z.out (bs HB.out)); (case aq => exact aa.out); rintro e w9 ⟨rfl, hb⟩; replace D := bb D hb rfl; replace HB := hs HB hb; (try clear hb)))
  go_ret
  exact ⟨eqr, bs HB.out⟩
 ·replace Y := Bool.eq_false_iff.mpr Y
  subst Y
  have H1 : (some false) = some r := by rw [if_neg (show ¬ (false = true) by decide)] at H; exact H
  clear H
  have H := H1
  clear H1
  obtain rfl := Option.some.inj H
  go_enter Try.func34, Try.ntmps34
  go_wp2_with (first | ((with_reducible refine gd 1 rfl ?_); refine bx 1 (cs := #[.slice I s.length J, .slice T G.length X]) (t := 34) ?_; intro an hg ar hbox hb; have D := am hbox; have ao := gwb HB hg; replace HB := hs HB hb; clear hb hbox hg; obtain ⟨aA, aB⟩ := bc2 (w := ar) D.out; have aC := blk_frozen D.out) | ((with_reducible refine gc 81 rfl ?_); refine gl 5 Try.func81 #[.slice I s.length J] ?_; (with_reducible refine (impl_nodesOk.calls k _ _ s false _ ?L ?O A2.out).mono ?_); (case L => exact Kd.C_below Z.out (bs HB.out)); (case O => exact aa.out); rintro e aD ⟨rfl, hb⟩; refine ⟨_, rfl, ?_⟩; replace D := bb D hb rfl; replace HB := hs HB hb; (try clear hb)))
  go_ret
  exact ⟨eqr, bs HB.out⟩

/-! ### impl_Node_104: function 104 -/
/-! where the sort's functions and types stand in this program -/
def sortN_ren : Go.Shelf.Ren := ⟨fun | 6 => 104 | 15 => 137 | 14 => 136 | 28 => 158 | 29 => 159 | 20 => 150 | 21 => 151 | 22 => 152 | 23 => 153 | 24 => 154 | 25 => 155 | 26 => 156 | 27 => 157 | 46 => 164 | 47 => 165 | 48 => 166 | 49 => 167 | 50 => 168 | 57 => 171 | n => n, fun | 22 => 29 | 24 => 36 | 25 => 112 | 3 => 3 | 39 => 143 | 0 => 0 | 53 => 159 | 55 => 161 | 4 => 4 | 46 => 153 | 45 => 152 | 50 => 117 | 5 => 5 | 9 => 9 | 66 => 162 | 70 => 166 | 76 => 170 | 77 => 171 | n => n, fun | n => n⟩
theorem sortN_lay : Go.Proofs.SlLaysF0.n6 Try.prog sortN_ren := ⟨
  by kernel_rfl,
  ⟨ "slices.SortFunc[[]loop.example/hagioscope/impl.Node,loop.example/hagioscope/impl.Node]", by decide, Try.func104.trans (congrArg some (by kernel_rfl))⟩,
  ⟨ "slices.pdqsortCmpFunc[loop.example/hagioscope/impl.Node]", by decide, Try.func136.trans (congrArg some (by kernel_rfl))⟩,
  Try.func137.trans (congrArg some (by kernel_rfl)),
  ⟨ "slices.insertionSortCmpFunc[loop.example/hagioscope/impl.Node]", by decide, Try.func150.trans (congrArg some (by kernel_rfl))⟩,
  ⟨ "slices.heapSortCmpFunc[loop.example/hagioscope/impl.Node]", by decide, Try.func151.trans (congrArg some (by kernel_rfl))⟩,
  ⟨ "slices.breakPatternsCmpFunc[loop.example/hagioscope/impl.Node]", by decide, Try.func152.trans (congrArg some (by kernel_rfl))⟩,
  ⟨ "slices.choosePivotCmpFunc[loop.example/hagioscope/impl.Node]", by decide, Try.func153.trans (congrArg some (by kernel_rfl))⟩,
  ⟨ "slices.reverseRangeCmpFunc[loop.example/hagioscope/impl.Node]", by decide, Try.func154.trans (congrArg some (by kernel_rfl))⟩,
  ⟨ "slices.partialInsertionSortCmpFunc[loop.example/hagioscope/impl.Node]", by decide, Try.func155.trans (congrArg some (by kernel_rfl))⟩,
  ⟨ "slices.partitionEqualCmpFunc[loop.example/hagioscope/impl.Node]", by decide, Try.func156.trans (congrArg some (by kernel_rfl))⟩,
  ⟨ "slices.partitionCmpFunc[loop.example/hagioscope/impl.Node]", by decide, Try.func157.trans (congrArg some (by kernel_rfl))⟩,
  Try.func158.trans (congrArg some (by kernel_rfl)),
  Try.func159.trans (congrArg some (by kernel_rfl)),
  ⟨ "slices.siftDownCmpFunc[loop.example/hagioscope/impl.Node]", by decide, Try.func164.trans (congrArg some (by kernel_rfl))⟩,
  Try.func165.trans (congrArg some (by kernel_rfl)),
  Try.func166.trans (congrArg some (by kernel_rfl)),
  ⟨ "slices.medianAdjacentCmpFunc[loop.example/hagioscope/impl.Node]", by decide, Try.func167.trans (congrArg some (by kernel_rfl))⟩,
  ⟨ "slices.medianCmpFunc[loop.example/hagioscope/impl.Node]", by decide, Try.func168.trans (congrArg some (by kernel_rfl))⟩,
  ⟨ "slices.order2CmpFunc[loop.example/hagioscope/impl.Node]", by decide, Try.func171.trans (congrArg some (by kernel_rfl))⟩,
  Try.underlying0,
  Try.isAgg0,
  Try.sizeOf0,
  Try.zeroValue0,
  Try.underlying3,
  Try.isAgg3,
  Try.sizeOf3,
  Try.zeroValue3,
  Try.underlying4,
  Try.isAgg4,
  Try.sizeOf4,
  Try.zeroValue4,
  Try.underlying5,
  Try.isAgg5,
  Try.sizeOf5,
  Try.zeroValue5,
  Try.underlying9,
  Try.isAgg9,
  Try.sizeOf9,
  Try.zeroValue9,
  Try.underlying29,
  Try.isAgg29,
  Try.sizeOf29,
  Try.zeroValue29,
  Try.underlying112,
  Try.isAgg112,
  Try.sizeOf112,
  Try.zeroValue112,
  Try.underlying143,
  Try.isAgg143,
  Try.sizeOf143,
  Try.zeroValue143,
  Try.underlying152,
  Try.isAgg152,
  Try.sizeOf152,
  Try.zeroValue152,
  Try.underlying153,
  Try.isAgg153,
  Try.sizeOf153,
  Try.zeroValue153,
  Try.underlying117,
  Try.isAgg117,
  Try.sizeOf117,
  Try.zeroValue117,
  Try.underlying159,
  Try.isAgg159,
  Try.sizeOf159,
  Try.zeroValue159,
  Try.underlying161,
  Try.isAgg161,
  Try.sizeOf161,
  Try.zeroValue161,
  Try.underlying162,
  Try.isAgg162,
  Try.sizeOf162,
  Try.zeroValue162,
  Try.underlying166,
  Try.isAgg166,
  Try.sizeOf166,
  Try.zeroValue166,
  Try.underlying170,
  Try.isAgg170,
  Try.sizeOf170,
  Try.zeroValue170,
  Try.underlying171,
  Try.isAgg171,
  Try.sizeOf171,
  Try.zeroValue171⟩
/-! a made row of nodes, told as its block -/
def enc36 (x : S36) : List Value := [.int .i64 x.f0, .int .i64 x.f1]
def encN (xs : List S36) : List Value := xs.flatMap enc36
theorem encN_len (xs : List S36) : (encN xs).length = xs.length * 2 := by
  induction xs with
  | nil => rfl
  | cons x xs ih =>
    show (enc36 x ++ encN xs).length = _
    rw [List.length_append, ih, List.length_cons]; show 2 + _ = _; omega
theorem encN_cons (x : S36) (xs : List S36) : encN (x :: xs) = .int .i64 x.f0 :: .int .i64 x.f1 :: encN xs := rfl
theorem encN_app (xs ys : List S36) : encN (xs ++ ys) = encN xs ++ encN ys := by simp [encN, List.flatMap_append]
theorem encN_get : ∀ (xs : List S36) (j : Nat) (p : S36), xs[j]? = some p → ((encN xs).drop (j * 2)).take 2 = enc36 p
  | [], j, p, h => by simp at h
  | x :: xs, 0, p, h => by obtain rfl := Option.some.inj h; rfl
  | x :: xs, j + 1, p, h => by
    rw [show (j + 1) * 2 = j * 2 + 2 by omega, encN_cons]
    exact encN_get xs j p (by simpa using h)
theorem encN_uniq : ∀ (xs : List S36) (cs : List Value), cs.length = xs.length * 2 → (∀ j p, xs[j]? = some p → (cs.drop (j * 2)).take 2 = enc36 p) → cs = encN xs
  | [], cs, hl, _ => by rw [List.length_eq_zero_iff.1 (show cs.length = 0 by simpa using hl)]; rfl
  | x :: xs, cs, hl, h => by
    have h0 := h 0 x rfl
    match cs, hl with
    | a :: b :: cs, hl =>
      have e : [a, b] = enc36 x := by simpa using h0
      have ih := encN_uniq xs cs (by simp at hl ⊢; omega) (fun j p hj => by
        have := h (j + 1) p (by simpa using hj)
        rwa [show (j + 1) * 2 = j * 2 + 2 by omega] at this)
      rw [ih, encN_cons]
      simp only [enc36, List.cons.injEq, and_true] at e
      rw [e.1, e.2]
    | [], hl => simp at hl
    | [a], hl => simp at hl; omega
theorem R_blk {w : World} {base : Nat} {ok : Nat → Prop} {v : Value} {xs : List S36} (h : Kd.R k36 36 w base ok v xs) (hp : 0 < xs.length) :
    ∃ g cap rest, v = .slice (some ⟨g, 0, none⟩) xs.length cap ∧ ok g ∧ base ≤ g ∧ w.heap[g]? = some (.cells (encN xs ++ rest).toArray 36 (0, 0)) ∧ (encN xs ++ rest).length = cap * 2 ∧ xs.length ≤ cap ∧ cap ≤ maxLen := by
  obtain ⟨hok, inner, ⟨hl, ho⟩, hr⟩ := h
  rcases ho with ⟨_, h0⟩ | ⟨g, cap, cur, rfl, hb, hh, hnc, hcm, hcs, ht⟩
  · omega
  · have e : inner = encN xs := encN_uniq xs inner hl (fun j p hj => k36_openM (hr.2 j p hj))
    have D : cur.toList.take (xs.length * 2) = encN xs := ht.trans e
    have s : encN xs ++ cur.toList.drop (xs.length * 2) = cur.toList := by rw [← D, List.take_append_drop]
    refine ⟨g, cap, cur.toList.drop (xs.length * 2), rfl, hok g rfl, hb, ?_, ?_, hnc, hcm⟩
    · rw [s]; exact hh
    · rw [s]; exact hcs
theorem blk_R {w : World} {base g cap : Nat} {ok : Nat → Prop} {xs : List S36} {rest : List Value} (hh : w.heap[g]? = some (.cells (encN xs ++ rest).toArray 36 (0, 0))) (hl : (encN xs ++ rest).length = cap * 2) (hnc : xs.length ≤ cap) (hcm : cap ≤ maxLen) (hok : ok g) (hb : base ≤ g) :
    Kd.R k36 36 w base ok (.slice (some ⟨g, 0, none⟩) xs.length cap) xs := by
  refine ⟨fun k hk => ?_, encN xs, ⟨encN_len xs, .inr ⟨g, cap, _, rfl, hb, hh, hnc, hcm, (show (encN xs ++ rest).toArray.size = cap * 2 by simpa using hl), ?_⟩⟩, encN_len xs, fun j p hj => ?_⟩
  · have : g = k := by simpa [Value.ownBlock] using hk
    exact this ▸ hok
  · show (encN xs ++ rest).take (xs.length * 2) = encN xs
    rw [← encN_len xs, List.take_left']
    rfl
  · show k36.M w base _ p (((encN xs).drop (j * 2)).take 2)
    rw [encN_get xs j p hj]
    exact k36_mkM _ _ _ p
/-! nodes in a made row: the row's block; the comparison lays blocks and draws, nothing else -/
theorem grow_g2 {W : World} {o1 o2 : Obj} : ∃ q os', (W.alloc o1).alloc o2 = Go.Sort.grow (W.drewN q) os' := ⟨0, #[o1] ++ #[o2], by rw [Go.Sort.alloc_eq_grow, Go.Sort.alloc_eq_grow, Go.Sort.grow_grow]; rfl⟩
set_option maxHeartbeats 2000000 in
set_option maxRecDepth 100000 in
theorem nodeCode_g (a b : Int) (W : World) : Calls Try.prog 116 #[.agg #[.int .i64 a, .int .i64 b]] W fun e w' => e = .returned (.int .i64 (Cd a b)) ∧ ∃ q os', w' = Go.Sort.grow (W.drewN q) os' := by
  by_cases h1 : 0 ≤ a
  · by_cases h2 : a ≤ 7
    · by_cases h3 : 0 ≤ b
      · by_cases h4 : b ≤ 40
        · have e : Cd a b = 64 * a + b := by unfold Cd; rw [if_pos (by rw [nOk_iff]; omega)]
          rw [e]
          go_enter Try.func116, Try.ntmps116
          go_wp2
          go_ret
          exact ⟨rfl, grow_g2⟩
        · have e : Cd a b = -1 := by unfold Cd; rw [if_neg (by rw [nOk_iff]; omega)]
          rw [e]
          go_enter Try.func116, Try.ntmps116
          go_wp2
          go_ret
          exact ⟨rfl, grow_g2⟩
      · have e : Cd a b = -1 := by unfold Cd; rw [if_neg (by rw [nOk_iff]; omega)]
        rw [e]
        go_enter Try.func116, Try.ntmps116
        go_wp2
        go_ret
        exact ⟨rfl, grow_g2⟩
    · have e : Cd a b = -1 := by unfold Cd; rw [if_neg (by rw [nOk_iff]; omega)]
      rw [e]
      go_enter Try.func116, Try.ntmps116
      go_wp2
      go_ret
      exact ⟨rfl, grow_g2⟩
  · have e : Cd a b = -1 := by unfold Cd; rw [if_neg (by rw [nOk_iff]; omega)]
    rw [e]
    go_enter Try.func116, Try.ntmps116
    go_wp2
    go_ret
    exact ⟨rfl, grow_g2⟩
theorem grow_of {w : World} {n : Nat} {os : Array Obj} {f : FuncId} {args : Array Value} {v : Value} (h : Calls Try.prog f args (Go.Sort.grow (w.drewN n) os) fun e w' => e = .returned v ∧ Drawn0 (Go.Sort.grow (w.drewN n) os) w') :
    Calls Try.prog f args (Go.Sort.grow (w.drewN n) os) fun e w'' => e = .returned v ∧ ∃ p : GrownBy, w'' = Go.Sort.grow (w.drewN p.n) p.os :=
  Calls.grown_of (h.mono fun _ _ ⟨he, hq⟩ => ⟨he, hq.out.choose, #[], by rw [Go.Sort.grow_empty]; exact hq.out.choose_spec⟩)
theorem grow_g {W w' : World} {o1 o2 : Obj} {q : Nat} {os : Array Obj} (h : w' = Go.Sort.grow (((W.alloc o1).alloc o2).drewN q) os) : ∃ q os', w' = Go.Sort.grow (W.drewN q) os' :=
  ⟨q, #[o1] ++ (#[o2] ++ os), by
    rw [h, show (((W.alloc o1).alloc o2).drewN q) = (((W.drewN q).alloc o1).alloc o2) from rfl, Go.Sort.alloc_eq_grow, Go.Sort.alloc_eq_grow, Go.Sort.grow_grow, Go.Sort.grow_grow]⟩
set_option maxHeartbeats 4000000 in
set_option maxRecDepth 100000 in
theorem nodeOrder_g (a b c d : Int) (W : World) : Calls Try.prog 105 #[.agg #[.int .i64 a, .int .i64 b], .agg #[.int .i64 c, .int .i64 d]] W fun e w' => e = .returned (.int .i64 (oN a b c d)) ∧ ∃ q os', w' = Go.Sort.grow (W.drewN q) os' := by
  have hco : ∀ w, Calls Try.prog 138 #[.int .i64 (Cd a b), .int .i64 (Cd c d)] w fun e w' => e = .returned (.int .i64 (oN a b c d)) ∧ Drawn0 w w' := fun w => cmp_Compare_int.calls _ _ _ w (by
    have h := iO a b c d
    unfold impl_nodeOrder.f at h
    simpa only [iC, Option.bind_some, Option.bind_fun_some] using h)
  have hca := fun w => nodeCode_g a b w
  have hcb := fun w => nodeCode_g c d w
  generalize oN a b c d = r at hco ⊢
  generalize Cd a b = x at hca hco
  generalize Cd c d = y at hcb hco
  have mixed : Try.prog.follows .mixedOrders = true := by kernel_rfl
  go_enter Try.func105, Try.ntmps105
  go_wp2
  obtain ⟨D, hw3⟩ : ∃ D, D = ((W.alloc (.cells #[.int .i64 a, .int .i64 b] 36)).alloc (.cells #[.int .i64 c, .int .i64 d] 36)) := ⟨_, rfl⟩
  have G : D.cell? ⟨W.heap.size, 0, none⟩ = some (.int .i64 a) := by rw [hw3]; simp
  have I : D.cell? ⟨W.heap.size, 1, none⟩ = some (.int .i64 b) := by rw [hw3]; simp
  have c2 : D.cell? ⟨W.heap.size + 1, 0, none⟩ = some (.int .i64 c) := by rw [hw3]; simp
  have J : D.cell? ⟨W.heap.size + 1, 1, none⟩ = some (.int .i64 d) := by rw [hw3]; simp
  have hsz : W.heap.size + 1 < D.heap.size := by rw [hw3]; simp
  have L := cell_grown (by show W.heap.size < _; omega) G
  have O := cell_grown (by show W.heap.size < _; omega) I
  have T := cell_grown (by show W.heap.size + 1 < _; omega) c2
  have X := cell_grown (by show W.heap.size + 1 < _; omega) J
  rw [← hw3]
  have HW := am hw3
  clear hw3 G I c2 J hsz
  go_quiet_grown (first | (with_reducible show Calls Try.prog 116 #[.agg #[.int .i64 a, .int .i64 b]] _ _; with_reducible exact Calls.grown_of (hca _)) | (with_reducible show Calls Try.prog 116 #[.agg #[.int .i64 c, .int .i64 d]] _ _; with_reducible exact Calls.grown_of (hcb _)) | (with_reducible show Calls Try.prog 138 _ _ _; with_reducible exact grow_of (hco _)))
  go_wp2
  go_ret
  exact ⟨rfl, grow_g (by rw [HW.out])⟩
/-! slices.SortFunc at nodes -/
instance : Inhabited S36 := ⟨z36⟩
def cfN (x y : S36) : Int := oN x.f0 x.f1 y.f0 y.f1
theorem ltN (x y : S36) : ltOf cfN x y = decide (Cd x.f0 x.f1 < Cd y.f0 y.f1) := by
  unfold ltOf cfN oN
  by_cases h1 : Cd x.f0 x.f1 < Cd y.f0 y.f1
  · simp [h1]
  · by_cases h2 : Cd x.f0 x.f1 > Cd y.f0 y.f1
    · simp [h1, h2]
    · simp [h1, h2]
theorem swoN : Go.Sort.SWO (ltOf cfN) where
  irrefl x := by rw [ltN]; simp
  trans x y z h1 h2 := by rw [ltN] at *; simp at *; omega
  ntrans x y z h1 h2 := by rw [ltN] at *; simp at *; omega
/-- What the sort makes of a row of nodes. -/
def srtN (l : List S36) : List S36 := (Go.Sort.pdq (ltOf cfN) l.toArray 0 l.length (Go.Lib.bitLen l.length) true true).toList
theorem srtN_ok (l : List S36) : Go.Sort.PermIn 0 l.length l.toArray (Go.Sort.pdq (ltOf cfN) l.toArray 0 l.length (Go.Lib.bitLen l.length) true true) ∧ Go.Sort.SortedIn (ltOf cfN) 0 l.length (Go.Sort.pdq (ltOf cfN) l.toArray 0 l.length (Go.Lib.bitLen l.length) true true) :=
  Go.Sort.pdq_sorts (ltOf cfN) swoN l.toArray 0 l.length _ true true (Nat.zero_le _) (by simp) (.inl rfl)
theorem srtN_len (l : List S36) : (srtN l).length = l.length := by
  have := (srtN_ok l).1.1
  simpa [srtN] using this
theorem srtN_perm (l : List S36) : (srtN l).Perm l := by
  have h := (srtN_ok l).1.2.2
  have e : ∀ a : Array S36, a.size = l.length → a.extract 0 l.length = a := fun a ha => by rw [← ha]; exact Array.extract_size
  rw [e _ ((srtN_ok l).1.1.trans (by simp)), e _ (by simp)] at h
  exact h
theorem srtN_sorted (l : List S36) : (srtN l).Pairwise fun x y => Cd x.f0 x.f1 ≤ Cd y.f0 y.f1 := by
  have hl := srtN_len l
  rw [List.pairwise_iff_getElem]
  intro i j hi hj hij
  have h := (srtN_ok l).2 i j (Nat.zero_le _) hij (by omega)
  rw [ltN, decide_eq_false_iff_not] at h
  have g : ∀ q (hq : q < (srtN l).length), (Go.Sort.pdq (ltOf cfN) l.toArray 0 l.length (Go.Lib.bitLen l.length) true true)[q]! = (srtN l)[q] := fun q hq => by
    rw [getElem!_pos _ q (by simpa [srtN] using hq)]
    exact Array.getElem_toList _
  rw [g i hi, g j hj] at h
  omega
theorem flat_encN (d : Array S36) : (Go.Sort.flatK enc36 2 d).toList = encN d.toList := by
  have hs := Go.Sort.size_flatK enc36 2 d
  refine encN_uniq _ _ (by simp) fun j p hj => ?_
  obtain ⟨s, D⟩ := List.getElem?_eq_some_iff.1 hj
  have hj1' : j < d.size := by simpa using s
  have e : d[j]! = p := by rw [getElem!_pos d j hj1', ← D]; simp
  have g : ∀ t, t < 2 → (Go.Sort.flatK enc36 2 d).toList[j * 2 + t]? = some (enc36 p)[t]! := fun t ht => by
    have h := Go.Sort.get_flatK enc36 2 d (j * 2 + t) (by omega)
    rw [show (j * 2 + t) / 2 = j by omega, show (j * 2 + t) % 2 = t by omega, e, getElem!_pos _ _ (by omega)] at h
    rw [List.getElem?_eq_getElem (by simp [hs]; omega), ← h]
    simp
  apply List.ext_getElem?
  intro t
  rw [List.getElem?_take]
  split
  · rename_i ht
    rw [List.getElem?_drop, g t ht]
    match t, ht with
    | 0, _ => rfl
    | 1, _ => rfl
  · rw [List.getElem?_eq_none (by show 2 ≤ t; omega)]
theorem put_app (F : Array Value) (A R : List Value) (h : A.length = F.size) : Go.Sort.putCells id 0 F (A ++ R).toArray = (F.toList ++ R).toArray := by
  apply Array.ext
  · simp [Go.Sort.putCells, h]
  · intro i h1 h2
    simp only [Go.Sort.putCells, Array.getElem_mapIdx, Nat.zero_le, true_and, Nat.zero_add, Nat.sub_zero, id]
    by_cases hi : i < F.size
    · rw [if_pos hi, getElem!_pos F i hi]
      simp [List.getElem_append_left, hi]
    · rw [if_neg hi]
      simp only [List.getElem_toArray]
      rw [List.getElem_append_right (by omega), List.getElem_append_right (by simp; omega)]
      simp [h]
def impl_Node_104.f (l0 : List (S36)) : Option (List (S36)) := if l0.length < 4611686018427387904 then some (srtN l0) else none
set_option maxHeartbeats 2000000 in
set_option maxRecDepth 100000 in
theorem impl_Node_104.calls (P0_ : Nat → Prop) (s : Value) (l0 : List (S36)) (G : List (S36)) (w0 w : World) (hB : Below w0.heap.size w0 w) (D : Kd.R k36 36 w w0.heap.size P0_ s l0) (h : impl_Node_104.f l0 = some G) :
  Calls Try.prog 104 #[s, .func (.func 105) #[] #[]] w fun e w' => e = .returned (.tuple #[]) ∧ Kd.R k36 36 w' w0.heap.size (fun k_ => (P0_ k_ ∨ w.heap.size ≤ k_)) s G ∧ Below w0.heap.size w0 w' ∧ Kept w w' (fun k_ => P0_ k_) := by
  unfold impl_Node_104.f at h
  by_cases hb : l0.length < 4611686018427387904
  · rw [if_pos hb] at h
    obtain rfl := Option.some.inj h
    by_cases hp : 0 < l0.length
    · obtain ⟨g, cap, rest, rfl, hok, hbg, hh, hcl, hnc, hcm⟩ := R_blk D hp
      have eg : ∀ args w, (callFunc 105 args).run Try.prog w = .ok (.enter 105 args) w := enters_of Try.func105 (by kernel_rfl) rfl
      have hfl := flat_encN l0.toArray
      have hH : Go.Sort.HoldsK enc36 2 w g 0 l0.toArray := by
        intro j hj
        rw [Nat.zero_add]
        refine ⟨?_, blk_frozen hh j⟩
        have hj' : j < (Go.Sort.flatK enc36 2 l0.toArray).size := hj
        refine (blk_cell hh j).trans ?_
        rw [getElem!_pos _ j hj', ← Array.getElem_toList]
        have I : j < (encN l0).length := by rw [show l0 = l0.toArray.toList from rfl, ← hfl]; simpa using hj'
        simp only [hfl]
        rw [List.getElem?_toArray, List.getElem?_append_left I, List.getElem?_eq_getElem I]
        rfl
      have hcon := AnyQ.slices_SortFunc_eq sortN_lay 2 Try.isAgg36 Try.sizeOf36 enc36 (fun _ => rfl) (fun x v hv => by simp [enc36] at hv; rcases hv with rfl | rfl <;> rfl) cfN swoN 105 #[] g 0 cap l0.toArray w eg (fun _ _ _ _ x y => nodeOrder_g x.f0 x.f1 y.f0 y.f1 _) hH (blk_lt hh) (by simpa using hb)
      change Calls Try.prog 104 _ _ _ at hcon
      refine hcon.mono ?_
      rintro e w' ⟨rfl, n, os, hw⟩
      have hd : (Go.Sort.pdq (ltOf cfN) l0.toArray 0 l0.length (Go.Lib.bitLen l0.length) true true).toList = srtN l0 := rfl
      rw [show l0.toArray.size = l0.length from rfl] at hw
      generalize Go.Sort.pdq (ltOf cfN) l0.toArray 0 l0.length (Go.Lib.bitLen l0.length) true true = d at hw hd
      have hdl : d.toList.length = l0.length := by rw [hd]; exact srtN_len l0
      have hds : (Go.Sort.flatK enc36 2 d).size = (encN l0).length := by rw [Go.Sort.size_flatK, encN_len, ← hdl]; simp
      have hheap : w'.heap = (w.heap.modify g (Go.Sort.onCells (Go.Sort.putCells id 0 (Go.Sort.flatK enc36 2 d)))) ++ os := by rw [hw]; rfl
      have hsz : w.heap.size ≤ w'.heap.size := by rw [hheap]; simp
      have hg : w'.heap[g]? = some (.cells (encN d.toList ++ rest).toArray 36 (0, 0)) := by
        rw [hheap, Array.getElem?_append_left (by simpa using blk_lt hh), Array.getElem?_modify, if_pos rfl, hh]
        show some (Obj.cells (Go.Sort.putCells id 0 _ _) 36 (0, 0)) = _
        rw [put_app _ _ _ hds.symm, flat_encN]
      have hoth : ∀ k, k < w.heap.size → k ≠ g → w'.heap[k]? = w.heap[k]? := fun k hk hne => by
        rw [hheap, Array.getElem?_append_left (by simpa using hk), Array.getElem?_modify, if_neg (Ne.symm hne)]
      refine ⟨rfl, ?_, ?_, hsz, fun i hi hni => hoth i hi (fun e => hni (e ▸ hok))⟩
      · have := blk_R (base := w0.heap.size) (ok := fun k_ => (P0_ k_ ∨ w.heap.size ≤ k_)) (cap := cap) (g := g) hg (by
          rw [List.length_append] at hcl ⊢
          rw [encN_len, hdl, ← encN_len]; exact hcl) (by omega) hcm (.inl hok) hbg
        rw [hd] at this
        rw [srtN_len] at this
        exact this
      · have h2 : Below w0.heap.size w w' := ⟨by rw [hw]; rfl, by rw [hw]; rfl, by rw [hw]; rfl, hsz, fun k hk => hoth k (Nat.lt_of_lt_of_le hk hB.size) (by omega)⟩
        exact hB.trans h2
    · have J : l0 = [] := List.length_eq_zero_iff.1 (by omega)
      subst J
      obtain ⟨A, c, e⟩ := Kd.R_slice D
      have hs : srtN [] = [] := List.length_eq_zero_iff.1 (srtN_len [])
      rw [hs]
      subst e
      have hcon := AnyF.slices_SortFunc_none sortN_lay A c (.func (.func 105) #[] #[]) w
      change Calls Try.prog 104 _ _ _ at hcon
      refine hcon.mono ?_
      rintro e w' ⟨rfl, rfl⟩
      exact ⟨rfl, Kd.R_mono D (fun k hk => .inl hk), hB, Kept.refl _ _⟩
  · rw [if_neg hb] at h; cases h

end Go.Proofs.Ytohmemckdogljaa.QFnExactWalkCore
