/- Contracts of the Go functions that this law reaches: each does what its plain Lean function says. No condition. -/
import Derived.Test.YtohmemckdogljaaQFnGraphBentx0
import Derived.Test.YtohmemckdogljaaQFnGraphBentx5
namespace Go.Proofs.Ytohmemckdogljaa.QFnGraphBent
open Go.RowKit Go.Proofs.YtohmemckdogljaaW.PrintWords Go.Proofs.YtohmemckdogljaaW.PrintLast Go.Proofs.YtohmemckdogljaaW.PrintMore Go.Proofs.Ytohmemckdogljaa.Bl
attribute [local go_sem] max2_int min2_int max_two min_two max_three min_three max_four min_four   -- for this text's walks alone
set_option linter.unusedVariables false
set_option linter.unusedSimpArgs false
set_option maxHeartbeats 8000000
set_option maxRecDepth 100000

/-! ### impl_Node_110: function 110 -/
/-- The sign of a comparison of two nodes. -/
def oN (a b c d : Int) : Int := if Cd a b < Cd c d then -1 else if Cd a b > Cd c d then 1 else 0
theorem iO (a b c d : Int) : impl_nodeOrder.f a b c d = some (oN a b c d) := by
  unfold impl_nodeOrder.f cmp_Compare_int.f cmp_isNaN_int.f oN
  simp only [iC, Option.bind_some, bne_self_eq_false, Bool.false_eq_true, if_false]
  split
  · rfl
  · split <;> rfl
theorem half_u {x y : Int} (h : 0 ≤ x ∧ 0 ≤ y ∧ x ≤ 9223372036854775807 ∧ y ≤ 9223372036854775807) : wrap64 (IntKind.u64.wrap (wrap64 (x + y)) / 2) = (x + y) / 2 := by
  have e : IntKind.u64.wrap (wrap64 (x + y)) = x + y := by
    simp only [IntKind.wrap, IntKind.signed, IntKind.bits, wrap64]
    simp
    omega
  rw [e]; unfold wrap64; omega
def impl_bsf.l0 : Nat → List S36 → Int → Int → Int → Int → Option (Int × Bool)
  | 0, _, _, _, _, _ => none
  | k + 1, xs, a, b, i, j => if i < j then (if oN (rd_T36 xs ((i + j) / 2)).f0 (rd_T36 xs ((i + j) / 2)).f1 a b < 0 then impl_bsf.l0 k xs a b ((i + j) / 2 + 1) j else impl_bsf.l0 k xs a b i ((i + j) / 2)) else
    some (i, if i < (xs.length : Int) then oN (rd_T36 xs i).f0 (rd_T36 xs i).f1 a b == 0 else false)
def impl_bsf.f (k : Nat) (xs : List S36) (a b : Int) : Option (Int × Bool) := impl_bsf.l0 k xs a b 0 xs.length
set_option maxHeartbeats 8000000 in
set_option maxRecDepth 100000 in
theorem impl_bsf.calls (k : Nat) (A0 : Option Addr) (c0 : Nat) (l0 : List S36) (D G : Int) (r1 : Int) (r2 : Bool) (w : World) (ac : Kd.C k36 w A0 l0.length l0) (ak : l0.length ≤ c0) (h : impl_bsf.f k l0 D G = some (r1, r2)) :
    Calls Try.prog 110 #[.slice A0 l0.length c0, .agg #[.int .i64 D, .int .i64 G], .func (.func 105) #[] #[]] w fun e w' => e = .returned (.tuple #[.int .i64 r1, .bool r2]) ∧ Below w.heap.size w w' := by
  have hu36 := Try.underlying36
  have al := am ac
  have av := am ak
  have an := am ac.2.1
  clear ac ak
  have HB := am (Below.refl w.heap.size w)
  have H' := am (show impl_bsf.l0 k l0 D G 0 l0.length = some (r1, r2) from h)
  clear h
  go_enter Try.func110, Try.ntmps110
  go_wp2_with (first | ((with_reducible refine gate_dst (N := 4) rfl ?_); refine box_event ?hg (N := 4) ?hd (cs := #[.int .i64 D, .int .i64 G]) (t := 36) ?hr ?_; (case hd => rfl); (case hg => rfl); (case hr => first | (go_simp; done) | (go_simp; rfl)); intro gn hg w3 hbox hb; have O := am (below_step HB.out hb); have I := am hbox; have ao := am ((by rw [hg]; exact (below_size (by repeat (first | (with_reducible first | exact HB.out | apply below_alloc | apply pw_below_drewN | apply below_drew1) | exact HB.out))) : w.heap.size ≤ gn)); clear HB; have HB := O; have BN := I; have GN := ao; clear O I ao hg hb hbox))
  go_loopg [9, 10] k (fun kq v9 ap w' => ∃ (s J : Int), v9 = .int .i64 s ∧ ap = .int .i64 J ∧ Aside0 (impl_bsf.l0 kq l0 D G s J = some (r1, r2)) ∧ Aside0 (0 ≤ s ∧ s ≤ J ∧ J ≤ l0.length) ∧ Aside0 (kq ≤ k) ∧ Aside0 (w'.heap[gn]? = some (.cells #[.int .i64 D, .int .i64 G] 36 (0, 0))) ∧ Aside0 (Below w.heap.size w w'))
  case atStart => exact ⟨0, l0.length, (by first | rfl | (simp; done) | (simp [*]; done)), (by first | rfl | (simp; done) | (simp [*]; done)), H', ⟨by omega⟩, ⟨Nat.le_refl _⟩, ⟨by (with_reducible repeat (first | refine blk_drewN ?_ _ | refine blk_drew ?_ | refine blk_alloc ?_ _)); exact BN.out⟩, ⟨by repeat (first | (with_reducible first | exact HB.out | apply below_alloc | apply pw_below_drewN | apply below_drew1) | exact HB.out)⟩⟩
  case round =>
    clear H'
    obtain ⟨s, J, rfl, rfl, HA, HX, aa, BN, HB⟩ := hrel
    cases gk with
    | zero => exact absurd HA.out (by simp [impl_bsf.l0])
    | succ k1 =>
      have H := HA.out
      clear HA
      simp only [impl_bsf.l0] at H
      by_cases c1 : s < J
      · rw [if_pos c1] at H
        have aq : decide (s < J) = true := decide_eq_true c1
        have hX := HX.out
        have hM := an.out
        have hh := half_u (x := s) (y := J) (by omega)
        have ab : 0 ≤ (s + J) / 2 := by omega
        have ae : (s + J) / 2 < J := by omega
        have af : s ≤ (s + J) / 2 := by omega
        clear c1 hX hM
        go_wp2
        rw [hh]
        clear hh
        generalize (s + J) / 2 = q at H ab ae af ⊢
        have X := ab
        have Y : q < (l0.length : Int) := by have := HX.out; omega
        obtain ⟨ad, ea, L, M⟩ := at_T36 al.out q X Y
        cases ea
        replace L := (HB.out.cell (World.block_lt_of_cell? w _ L)).trans L
        replace M := (HB.out.cell (World.block_lt_of_cell? w _ M)).trans M
        replace X := eq_true X
        replace Y := eq_true Y
        have HQ := am (show 0 ≤ q ∧ q < J ∧ s ≤ q from ⟨ab, ae, af⟩)
        clear ab ae af
        generalize (rd_T36 l0 q).f0 = f0 at H L M
        generalize (rd_T36 l0 q).f1 = f1 at H L M
        refine wp_region_bel (by kernel_rfl) (by kernel_rfl) ?_
        have O := am (blk_drew BN.out)
        have I := am (below_drew1 HB.out)
        clear BN HB
        have BN := O
        have HB := I
        clear O I
        have hx0' : wr.drew.cell? (ad.add (q.toNat * 2)) = some (.int .i64 f0) := L
        have hx1' : wr.drew.cell? ⟨(ad.add (q.toNat * 2)).block, (ad.add (q.toNat * 2)).off + 1, none⟩ = some (.int .i64 f1) := M
        clear L M
        generalize wr.drew = T at BN HB hx0' hx1' ⊢
        have ag : ∀ p : Bel T, p.v.cell? (ad.add (q.toNat * 2)) = some (.int .i64 f0) := fun p => cell_bel hx0' p
        have ah : ∀ p : Bel T, p.v.cell? ⟨(ad.add (q.toNat * 2)).block, (ad.add (q.toNat * 2)).off + 1, none⟩ = some (.int .i64 f1) := fun p => cell_bel hx1' p
        have ai : ∀ p : Bel T, p.v.cell? ⟨gn, 0, none⟩ = some (.int .i64 D) := fun p => cell_bel ((blk_cell BN.out 0).trans rfl) p
        have aj : ∀ p : Bel T, p.v.cell? ⟨gn, 1, none⟩ = some (.int .i64 G) := fun p => cell_bel ((blk_cell BN.out 1).trans rfl) p
        clear hx0' hx1'
        by_cases c2 : oN f0 f1 D G < 0
        · rw [if_pos c2] at H
          have ar : decide (oN f0 f1 D G < 0) = true := decide_eq_true c2
          clear c2
          have H' := am H
          clear H
          repeat (go_big_quiet_step (with_reducible exact calls_bel (impl_nodeOrder.calls f0 f1 D G _ _ (iO f0 f1 D G))))
          refine wpQuiet_nil ?_
          intro _ hw'
          obtain ⟨⟨w6, hb⟩, hw''⟩ := hw'
          subst hw''
          clear ag ah ai aj
          have O := am (blk_below BN.out hb)
          have I := am (below_step HB.out hb)
          clear BN HB hb
          have BN := O
          have HB := I
          clear O I
          go_wp2
          go_roundg k1
          case measure => have := aa.out; omega
          case rel => exact ⟨q + 1, J, (by first | rfl | (simp; done) | (simp [*]; done) | (simp; unfold wrap64; have := HQ.out; have := HX.out; have := an.out; omega)), (by first | rfl | (simp; done) | (simp [*]; done)), H', ⟨by have := HQ.out; have := HX.out; omega⟩, ⟨by have := aa.out; omega⟩, ⟨by (with_reducible repeat (first | refine blk_drewN ?_ _ | refine blk_drew ?_ | refine blk_alloc ?_ _)); exact BN.out⟩, ⟨by repeat (first | (with_reducible first | exact HB.out | apply below_alloc | apply pw_below_drewN | apply below_drew1) | exact HB.out)⟩⟩
        · rw [if_neg c2] at H
          have ar : decide (oN f0 f1 D G < 0) = false := decide_eq_false c2
          clear c2
          have H' := am H
          clear H
          repeat (go_big_quiet_step (with_reducible exact calls_bel (impl_nodeOrder.calls f0 f1 D G _ _ (iO f0 f1 D G))))
          refine wpQuiet_nil ?_
          intro _ hw'
          obtain ⟨⟨w6, hb⟩, hw''⟩ := hw'
          subst hw''
          clear ag ah ai aj
          have O := am (blk_below BN.out hb)
          have I := am (below_step HB.out hb)
          clear BN HB hb
          have BN := O
          have HB := I
          clear O I
          go_wp2
          go_roundg k1
          case measure => have := aa.out; omega
          case rel => exact ⟨s, q, (by first | rfl | (simp; done) | (simp [*]; done)), (by first | rfl | (simp; done) | (simp [*]; done)), H', ⟨by have := HQ.out; have := HX.out; omega⟩, ⟨by have := aa.out; omega⟩, ⟨by (with_reducible repeat (first | refine blk_drewN ?_ _ | refine blk_drew ?_ | refine blk_alloc ?_ _)); exact BN.out⟩, ⟨by repeat (first | (with_reducible first | exact HB.out | apply below_alloc | apply pw_below_drewN | apply below_drew1) | exact HB.out)⟩⟩
      · rw [if_neg c1] at H
        have aq : decide (s < J) = false := decide_eq_false c1
        clear c1
        by_cases Z : s < (l0.length : Int)
        · rw [if_pos Z] at H
          have au : decide (s < (l0.length : Int)) = true := decide_eq_true Z
          have X : 0 ≤ s := HX.out.1
          have Y : s < (l0.length : Int) := Z
          obtain ⟨ad, ea, L, M⟩ := at_T36 al.out s X Y
          cases ea
          replace L := (HB.out.cell (World.block_lt_of_cell? w _ L)).trans L
          replace M := (HB.out.cell (World.block_lt_of_cell? w _ M)).trans M
          replace X := eq_true X
          replace Y := eq_true Y
          clear Z
          generalize (rd_T36 l0 s).f0 = f0 at H L M
          generalize (rd_T36 l0 s).f1 = f1 at H L M
          simp only [Option.some.injEq, Prod.mk.injEq] at H
          obtain ⟨rfl, rfl⟩ := H
          go_wp2
          refine wp_region_bel (by kernel_rfl) (by kernel_rfl) ?_
          have O := am (blk_drew BN.out)
          have I := am (below_drew1 HB.out)
          clear BN HB
          have BN := O
          have HB := I
          clear O I
          have hx0' : wr.drew.cell? (ad.add (s.toNat * 2)) = some (.int .i64 f0) := L
          have hx1' : wr.drew.cell? ⟨(ad.add (s.toNat * 2)).block, (ad.add (s.toNat * 2)).off + 1, none⟩ = some (.int .i64 f1) := M
          clear L M
          generalize wr.drew = T at BN HB hx0' hx1' ⊢
          have ag : ∀ p : Bel T, p.v.cell? (ad.add (s.toNat * 2)) = some (.int .i64 f0) := fun p => cell_bel hx0' p
          have ah : ∀ p : Bel T, p.v.cell? ⟨(ad.add (s.toNat * 2)).block, (ad.add (s.toNat * 2)).off + 1, none⟩ = some (.int .i64 f1) := fun p => cell_bel hx1' p
          have ai : ∀ p : Bel T, p.v.cell? ⟨gn, 0, none⟩ = some (.int .i64 D) := fun p => cell_bel ((blk_cell BN.out 0).trans rfl) p
          have aj : ∀ p : Bel T, p.v.cell? ⟨gn, 1, none⟩ = some (.int .i64 G) := fun p => cell_bel ((blk_cell BN.out 1).trans rfl) p
          clear hx0' hx1'
          repeat (go_big_quiet_step (with_reducible exact calls_bel (impl_nodeOrder.calls f0 f1 D G _ _ (iO f0 f1 D G))))
          refine wpQuiet_nil ?_
          intro _ hw'
          obtain ⟨⟨w6, hb⟩, hw''⟩ := hw'
          subst hw''
          go_wp2
          go_ret2
          exact ⟨by first | rfl | (simp; done) | (simp [*]; done), below_step HB.out hb⟩
        · rw [if_neg Z] at H
          simp only [Option.some.injEq, Prod.mk.injEq] at H
          obtain ⟨rfl, rfl⟩ := H
          have au : decide (s < (l0.length : Int)) = false := decide_eq_false Z
          clear Z
          go_wp2
          refine wp_region_bel (by kernel_rfl) (by kernel_rfl) ?_
          have I := am (below_drew1 HB.out)
          clear HB
          have HB := I
          clear I
          generalize wr.drew = T at HB ⊢
          repeat (go_big_quiet_step (fail))
          refine wpQuiet_nil ?_
          intro _ hw'
          obtain ⟨⟨w6, hb⟩, hw''⟩ := hw'
          subst hw''
          go_wp2
          go_ret2
          exact ⟨by first | rfl | (simp; done) | (simp [*]; done), below_step HB.out hb⟩

/-! ### impl_nodeThere: function 118 -/
def impl_nodeThere.f (k : Nat) (l0 : List S36) (s z : Int) : Option Bool := (impl_bsf.f k l0 s z).bind fun b => some b.2
set_option maxHeartbeats 8000000 in
set_option maxRecDepth 100000 in
theorem impl_nodeThere.calls (k : Nat) (I : Option Addr) (J : Nat) (l0 : List S36) (s z : Int) (r : Bool) (w : World) (L : Kd.C k36 w I l0.length l0) (M : l0.length ≤ J) (h : impl_nodeThere.f k l0 s z = some r) :
    Calls Try.prog 118 #[.slice I l0.length J, .agg #[.int .i64 s, .int .i64 z]] w fun e w' => e = .returned (.bool r) ∧ Below w.heap.size w w' := by
  have hu36 := Try.underlying36
  have X := am L
  have Y := am M
  clear L M
  have HB := am (Below.refl w.heap.size w)
  obtain ⟨⟨Z, q2⟩, hq, h⟩ := Option.bind_eq_some_iff.1 h
  obtain rfl := Option.some.inj h
  have HQ := am hq
  clear hq h
  go_enter Try.func118, Try.ntmps118
  go_wp2_with (first | ((with_reducible refine gate_dst (N := 3) rfl ?_); refine box_event ?hg (N := 3) ?hd (cs := #[.int .i64 s, .int .i64 z]) (t := 36) ?hr ?_; (case hd => rfl); (case hg => rfl); (case hr => first | (go_simp; done) | (go_simp; rfl)); intro gn hg O hbox hb; have G := am (below_step HB.out hb); have T := am hbox; clear HB; have HB := G; have BN := T; clear G T hg hb hbox; have aa : O.cell? ⟨gn, 0, none⟩ = some (.int .i64 s) := (blk_cell BN.out 0).trans rfl; have ab : O.cell? ⟨gn, 1, none⟩ = some (.int .i64 z) := (blk_cell BN.out 1).trans rfl))
  refine (impl_bsf.calls k _ _ l0 s z Z q2 _ ?ac Y.out HQ.out).mono ?_
  case ac => repeat (first | exact (Kd.C_below X.out HB.out) | (with_reducible refine Kd.C_alloc ?_ _) | (with_reducible refine Kd.C_drewN ?_ _) | (with_reducible refine Kd.C_drew ?_))
  rintro e w5 ⟨rfl, hb⟩
  have G := am (below_step (by repeat (first | (with_reducible first | exact HB.out | apply below_alloc | apply pw_below_drewN | apply below_drew1) | exact HB.out)) hb)
  clear HB hb BN aa ab
  have HB := G
  clear G
  go_wp2
  go_ret
  exact ⟨by first | rfl | (simp; done) | (simp [*]; done), by repeat (first | (with_reducible first | exact HB.out | apply below_alloc | apply pw_below_drewN | apply below_drew1) | exact HB.out)⟩

/-! ### impl_edgesOk: function 82 -/
def impl_edgesOk.l0 : Nat → List S56 → List S36 → List Int → Int → Option Bool
 | 0, _, _, _, _ => none
 | k + 1, es, ns, m, i => if i < (es.length : Int) then (if 0 ≤ i then (if EOk (rd_T56 es i).f0 (rd_T56 es i).f1.f0 (rd_T56 es i).f1.f1 (rd_T56 es i).f2.f0 (rd_T56 es i).f2.f1 = true then (if rd m (rd_T56 es i).f0 = 7 then some false else (if i > 0 then (if 0 ≤ wrap64 (i - 1) then (if wrap64 (i - 1) < (es.length : Int) then (impl_edgeOrder.f k (rd_T56 es (wrap64 (i - 1))).f0 (rd_T56 es (wrap64 (i - 1))).f1.f0 (rd_T56 es (wrap64 (i - 1))).f1.f1 (rd_T56 es (wrap64 (i - 1))).f2.f0 (rd_T56 es (wrap64 (i - 1))).f2.f1 (rd_T56 es i).f0 (rd_T56 es i).f1.f0 (rd_T56 es i).f1.f1 (rd_T56 es i).f2.f0 (rd_T56 es i).f2.f1).bind fun t => if t ≥ 0 then some false else ((impl_nodeThere.f k ns (rd_T56 es i).f1.f0 (rd_T56 es i).f1.f1).bind fun s => if s = true then (impl_nodeThere.f k ns (rd_T56 es i).f2.f0 (rd_T56 es i).f2.f1).bind fun z => if z = true then impl_edgesOk.l0 k es ns (m.set ((rd_T56 es i).f0).toNat (wrap64 (rd m (rd_T56 es i).f0 + 1))) (wrap64 (i + 1)) else some false else some false) else none) else none) else ((impl_nodeThere.f k ns (rd_T56 es i).f1.f0 (rd_T56 es i).f1.f1).bind fun s => if s = true then (impl_nodeThere.f k ns (rd_T56 es i).f2.f0 (rd_T56 es i).f2.f1).bind fun z => if z = true then impl_edgesOk.l0 k es ns (m.set ((rd_T56 es i).f0).toNat (wrap64 (rd m (rd_T56 es i).f0 + 1))) (wrap64 (i + 1)) else some false else some false))) else some false) else none) else some true
def impl_edgesOk.f (k : Nat) (l0 : List S56) (l1 : List S36) : Option Bool := impl_edgesOk.l0 k l0 l1 [0, 0, 0, 0, 0, 0, 0, 0] 0
theorem impl_edgesOk.calls (k : Nat) (A0 : Option Addr) (c0 : Nat) (l0 : List S56) (A1 : Option Addr) (c1 : Nat) (l1 : List S36) (r : Bool) (w : World) (aA : Kd.C k56 w A0 l0.length l0) (aB : l0.length ≤ c0) (aC : Kd.C k36 w A1 l1.length l1) (aD : l1.length ≤ c1) (h : impl_edgesOk.f k l0 l1 = some r) :
  Calls Try.prog 82 #[.slice A0 l0.length c0, .slice A1 l1.length c1] w fun e w' => e = .returned (.bool r) ∧ Below w.heap.size w w' := by
 have hu36 := Try.underlying36
 have hu56 := Try.underlying56
 have hu122 := Try.underlying122
 have az := am aA
 have a6 := am aB
 have aw := am aC
 have ax := am aD
 clear aA aB aC aD
 have HB := am (Below.refl w.heap.size w)
 have H' := am (show impl_edgesOk.l0 k l0 l1 [0, 0, 0, 0, 0, 0, 0, 0] 0 = some r from h)
 clear h
 go_enter Try.func82, Try.ntmps82
 go_wp2_with (first | ((with_reducible refine gd 5 rfl ?_); refine bx 5 (cs := cts [0, 0, 0, 0, 0, 0, 0, 0]) (t := 122) ?_; intro gb hg w3 hbox hb; have BK := am hbox; have GE := Ge.mk ((by rw [hg]; exact (below_size (bs HB.out)) : w.heap.size ≤ gb)); replace HB := am (below_step HB.out hb); clear hg hb hbox))
 go_loopg [10] k (fun kq aS w' => ∃ (D : Int) (m : List Int), aS = .int .i64 D ∧ Aside0 (impl_edgesOk.l0 kq l0 l1 m D = some r) ∧ Aside0 (m.length = 8) ∧ Aside0 (kq ≤ k) ∧ Aside0 (w'.heap[gb]? = some (.cells (cts m) 122 (0, 0))) ∧ Aside0 (Below w.heap.size w w'))
 case atStart => exact ⟨0, [0, 0, 0, 0, 0, 0, 0, 0], eqs, H', ⟨rfl⟩, ⟨Nat.le_refl _⟩, ⟨bf BK.out⟩, ⟨bs HB.out⟩⟩
 case round =>
  clear H'
  obtain ⟨D, m, rfl, HA, HM, ay, BK, HB⟩ := hrel
  cases gk with
  | zero => exact absurd HA.out (by simp [impl_edgesOk.l0])
  | succ k1 =>
   have H := HA.out
   clear HA
   simp only [impl_edgesOk.l0] at H
   by_cases c1 : D < (l0.length : Int)
   ·rw [if_pos c1] at H
    have aT : decide (D < (l0.length : Int)) = true := decide_eq_true c1
    by_cases c2 : 0 ≤ D
    ·rw [if_pos c2] at H
     have p0 := c2
     have q0 := c1
     obtain ⟨ad, ea, ak, al, an, ao, ap⟩ := at_T56 az.out D p0 q0
     cases ea
     have CX := am (show 0 ≤ D ∧ D < (l0.length : Int) from ⟨c2, c1⟩)
     replace ak := cb HB ak
     replace al := cb HB al
     replace an := cb HB an
     replace ao := cb HB ao
     replace ap := cb HB ap
     replace p0 := eq_true p0
     replace q0 := eq_true q0
     clear c1 c2
     generalize (rd_T56 l0 D).f0 = z at H ak al an ao ap
     generalize (rd_T56 l0 D).f1.f0 = L at H ak al an ao ap
     generalize (rd_T56 l0 D).f1.f1 = O at H ak al an ao ap
     generalize (rd_T56 l0 D).f2.f0 = M at H ak al an ao ap
     generalize (rd_T56 l0 D).f2.f1 = T at H ak al an ao ap
     go_wp2_with (first | ((with_reducible refine gd 7 rfl ?_); refine bx 7 (cs := #[.int .i64 0, .int .i64 0, .int .i64 0, .int .i64 0, .int .i64 0]) (t := 56) ?_; intro gn hg w5 hbox hb; have BN := am hbox; have GN := am ((by rw [hg]; exact (below_size (bs HB.out)) : w.heap.size ≤ gn)); replace HB := hs HB hb; have NE := am ((by rw [hg]; exact Nat.ne_of_lt (blk_lt (g := gb) (bf BK.out)) : gb ≠ gn)); replace BK := am (blk_below (g := gb) (bf BK.out) hb); clear hb hbox hg; have Y : w5.cell? ⟨gn, 0, none⟩ = some (.int .i64 0) := (blk_cell BN.out 0).trans rfl; have Z : w5.cell? ⟨gn, 1, none⟩ = some (.int .i64 0) := (blk_cell BN.out 1).trans rfl; have aa : w5.cell? ⟨gn, 2, none⟩ = some (.int .i64 0) := (blk_cell BN.out 2).trans rfl; have ab : w5.cell? ⟨gn, 3, none⟩ = some (.int .i64 0) := (blk_cell BN.out 3).trans rfl; have ac : w5.cell? ⟨gn, 4, none⟩ = some (.int .i64 0) := (blk_cell BN.out 4).trans rfl; have aU := blk_frozen BN.out 0; have aV := blk_frozen BN.out 1; have aW := blk_frozen BN.out 2; have aX := blk_frozen BN.out 3; have aY := blk_frozen BN.out 4))
     have G := am (blk_far (blk_far (blk_far (blk_far (blk_far (BK.out) (p := ⟨gn, 0, none⟩) NE.out (.int .i64 z)) (p := ⟨gn, 1, none⟩) NE.out (.int .i64 L)) (p := ⟨gn, 2, none⟩) NE.out (.int .i64 O)) (p := ⟨gn, 3, none⟩) NE.out (.int .i64 M)) (p := ⟨gn, 4, none⟩) NE.out (.int .i64 T))
     have I := am (blk_put (cs' := #[.int .i64 z, .int .i64 L, .int .i64 O, .int .i64 M, .int .i64 T]) (blk_put (cs' := #[.int .i64 z, .int .i64 L, .int .i64 O, .int .i64 M, .int .i64 0]) (blk_put (cs' := #[.int .i64 z, .int .i64 L, .int .i64 O, .int .i64 0, .int .i64 0]) (blk_put (cs' := #[.int .i64 z, .int .i64 L, .int .i64 0, .int .i64 0, .int .i64 0]) (blk_put (cs' := #[.int .i64 z, .int .i64 0, .int .i64 0, .int .i64 0, .int .i64 0]) (BN.out) 0 (.int .i64 z) rfl) 1 (.int .i64 L) rfl) 2 (.int .i64 O) rfl) 3 (.int .i64 M) rfl) 4 (.int .i64 T) rfl)
     have J := am (below_set (j := 4) (v := .int .i64 T) (below_set (j := 3) (v := .int .i64 M) (below_set (j := 2) (v := .int .i64 O) (below_set (j := 1) (v := .int .i64 L) (below_set (j := 0) (v := .int .i64 z) (HB.out) GN.out) GN.out) GN.out) GN.out) GN.out)
     clear BK BN HB Y aU Z aV aa aW ab aX ac aY
     have BK := G
     have BN := I
     have HB := J
     clear G I J
     generalize (((((w5).setCell ⟨gn, 0, none⟩ (.int .i64 z)).setCell ⟨gn, 1, none⟩ (.int .i64 L)).setCell ⟨gn, 2, none⟩ (.int .i64 O)).setCell ⟨gn, 3, none⟩ (.int .i64 M)).setCell ⟨gn, 4, none⟩ (.int .i64 T) = w6 at BK BN HB ⊢
     refine (impl_EdgeOk.calls z L O M T (EOk z L O M T) _ rfl).mono ?_
     rintro e X ⟨rfl, hb⟩
     have G := am (blk_below BK.out hb)
     have I := am (blk_below BN.out hb)
     have J := am (below_step (bs HB.out) hb)
     clear BK BN HB hb
     have BK := G
     have BN := I
     have HB := J
     clear G I J
     have Y : X.cell? ⟨gn, 0, none⟩ = some (.int .i64 z) := (blk_cell BN.out 0).trans rfl
     have Z : X.cell? ⟨gn, 1, none⟩ = some (.int .i64 L) := (blk_cell BN.out 1).trans rfl
     have aa : X.cell? ⟨gn, 2, none⟩ = some (.int .i64 O) := (blk_cell BN.out 2).trans rfl
     have ab : X.cell? ⟨gn, 3, none⟩ = some (.int .i64 M) := (blk_cell BN.out 3).trans rfl
     have ac : X.cell? ⟨gn, 4, none⟩ = some (.int .i64 T) := (blk_cell BN.out 4).trans rfl
     by_cases c3 : EOk z L O M T = true
     ·rw [if_pos c3] at H
      have HL := am (EOk_l c3)
      obtain ⟨j0, aE⟩ := Int.eq_ofNat_of_zero_le HL.out.1
      have aF : X.cell? ⟨gb, j0, none⟩ = some (.int .i64 (rd m z)) := by rw [aE]; exact (blk_cell BK.out j0).trans (cts_get m j0 (by have := HM.out; have := HL.out.2; omega))
      have htn : (z : Int).toNat = j0 := by omega
      have hcm : X.cell? ⟨gb, (z : Int).toNat, none⟩ = some (.int .i64 (rd m z)) := by rw [htn]; exact aF
      have hfm := blk_frozen BK.out (z : Int).toNat
      have hlo : (0 ≤ z) = True := eq_true HL.out.1
      have hhi : (z < 8) = True := eq_true (by have := HL.out.2; omega)
      have aG : (z : Int).toNat < 8 := by have := HL.out; omega
      clear aE aF htn j0
      by_cases c4 : rd m z = 7
      ·rw [if_pos c4] at H
       have aZ : (rd m z == 7) = true := beq_iff_eq.mpr c4
       clear c4
       obtain rfl := Option.some.inj H
       go_wp2
       go_ret
       exact ⟨eqs, bs HB.out⟩
      ·rw [if_neg c4] at H
       have aZ : (rd m z == 7) = false := beq_eq_false_iff_ne.mpr c4
       clear c4
       by_cases c5 : D > 0
       ·rw [if_pos c5] at H
        have a3 : decide (0 < D) = true := decide_eq_true c5
        have hwr : wrap64 (D - 1) = D - 1 := w64 (by have := CX.out; have := az.out.2.1; omega)
        rw [hwr] at H
        rw [if_pos (show 0 ≤ D - 1 by omega), if_pos (show D - 1 < (l0.length : Int) by have := CX.out; omega)] at H
        obtain ⟨q, hq⟩ : ∃ q, D - 1 = q := ⟨_, rfl⟩
        have hqw : wrap64 (D - 1) = q := hwr.trans hq
        rw [hq] at H
        have p1 : 0 ≤ q := by omega
        have q1 : q < (l0.length : Int) := by have := CX.out; omega
        obtain ⟨ad', ea', ae, af, ag, ah, ai⟩ := at_T56 az.out q p1 q1
        obtain rfl : ad = ad' := by injection ea'
        clear ea' hwr
        replace hq := am hq
        replace ae : X.cell? (ad.add (q.toNat * 5)) = some (.int .i64 (rd_T56 l0 q).f0) := cb HB ae
        replace af : X.cell? ⟨(ad.add (q.toNat * 5)).block, (ad.add (q.toNat * 5)).off + 1, none⟩ = some (.int .i64 (rd_T56 l0 q).f1.f0) := cb HB af
        replace ag : X.cell? ⟨(ad.add (q.toNat * 5)).block, (ad.add (q.toNat * 5)).off + 2, none⟩ = some (.int .i64 (rd_T56 l0 q).f1.f1) := cb HB ag
        replace ah : X.cell? ⟨(ad.add (q.toNat * 5)).block, (ad.add (q.toNat * 5)).off + 3, none⟩ = some (.int .i64 (rd_T56 l0 q).f2.f0) := cb HB ah
        replace ai : X.cell? ⟨(ad.add (q.toNat * 5)).block, (ad.add (q.toNat * 5)).off + 4, none⟩ = some (.int .i64 (rd_T56 l0 q).f2.f1) := cb HB ai
        replace p1 := eq_true p1
        replace q1 := eq_true q1
        generalize (rd_T56 l0 q).f0 = d0 at H ae af ag ah ai
        generalize (rd_T56 l0 q).f1.f0 = d1 at H ae af ag ah ai
        generalize (rd_T56 l0 q).f1.f1 = d2 at H ae af ag ah ai
        generalize (rd_T56 l0 q).f2.f0 = d3 at H ae af ag ah ai
        generalize (rd_T56 l0 q).f2.f1 = d4 at H ae af ag ah ai
        replace H := Option.bind_eq_some_iff.mp H
        obtain ⟨t, aH, H⟩ := H
        have A3 := am aH
        clear aH
        go_wp2
        refine wp_region_bel (by kernel_rfl) (by kernel_rfl) ?_
        clear Y Z aa ab ac hcm hfm hlo hhi aG
        replace BK := bd BK
        replace BN := am (blk_drew BN.out)
        replace HB := hd HB
        replace ae : X.drew.cell? (ad.add (q.toNat * 5)) = some (.int .i64 d0) := ae
        replace af : X.drew.cell? ⟨(ad.add (q.toNat * 5)).block, (ad.add (q.toNat * 5)).off + 1, none⟩ = some (.int .i64 d1) := af
        replace ag : X.drew.cell? ⟨(ad.add (q.toNat * 5)).block, (ad.add (q.toNat * 5)).off + 2, none⟩ = some (.int .i64 d2) := ag
        replace ah : X.drew.cell? ⟨(ad.add (q.toNat * 5)).block, (ad.add (q.toNat * 5)).off + 3, none⟩ = some (.int .i64 d3) := ah
        replace ai : X.drew.cell? ⟨(ad.add (q.toNat * 5)).block, (ad.add (q.toNat * 5)).off + 4, none⟩ = some (.int .i64 d4) := ai
        generalize X.drew = w8 at BK BN HB ae af ag ah ai ⊢
        have aI : ∀ p : Bel w8, p.v.cell? (ad.add (q.toNat * 5)) = some (.int .i64 d0) := fun p => cell_bel ae p
        have aJ : ∀ p : Bel w8, p.v.cell? ⟨(ad.add (q.toNat * 5)).block, (ad.add (q.toNat * 5)).off + 1, none⟩ = some (.int .i64 d1) := fun p => cell_bel af p
        have aK : ∀ p : Bel w8, p.v.cell? ⟨(ad.add (q.toNat * 5)).block, (ad.add (q.toNat * 5)).off + 2, none⟩ = some (.int .i64 d2) := fun p => cell_bel ag p
        have aL : ∀ p : Bel w8, p.v.cell? ⟨(ad.add (q.toNat * 5)).block, (ad.add (q.toNat * 5)).off + 3, none⟩ = some (.int .i64 d3) := fun p => cell_bel ah p
        have aM : ∀ p : Bel w8, p.v.cell? ⟨(ad.add (q.toNat * 5)).block, (ad.add (q.toNat * 5)).off + 4, none⟩ = some (.int .i64 d4) := fun p => cell_bel ai p
        clear ae af ag ah ai
        have aN : ∀ p : Bel w8, p.v.cell? ⟨gn, 0, none⟩ = some (.int .i64 z) := fun p => cell_bel ((blk_cell BN.out 0).trans rfl) p
        have aO : ∀ p : Bel w8, p.v.cell? ⟨gn, 1, none⟩ = some (.int .i64 L) := fun p => cell_bel ((blk_cell BN.out 1).trans rfl) p
        have aP : ∀ p : Bel w8, p.v.cell? ⟨gn, 2, none⟩ = some (.int .i64 O) := fun p => cell_bel ((blk_cell BN.out 2).trans rfl) p
        have aQ : ∀ p : Bel w8, p.v.cell? ⟨gn, 3, none⟩ = some (.int .i64 M) := fun p => cell_bel ((blk_cell BN.out 3).trans rfl) p
        have aR : ∀ p : Bel w8, p.v.cell? ⟨gn, 4, none⟩ = some (.int .i64 T) := fun p => cell_bel ((blk_cell BN.out 4).trans rfl) p
        by_cases c6 : t ≥ 0
        ·rw [if_pos c6] at H
         have a4 : decide (0 ≤ t) = true := decide_eq_true c6
         clear c6
         repeat (go_big_quiet_step (with_reducible exact calls_bel (impl_edgeOrder.calls k1 d0 d1 d2 d3 d4 z L O M T t _ A3.out)))
         refine wpQuiet_nil ?_
         intro w9 hw'
         obtain ⟨⟨wq_, hb⟩, hw''⟩ := hw'
         subst hw''
         clear aI aJ aK aL aM aN aO aP aQ aR hqw
         have G := am (blk_below BK.out hb)
         have I := am (blk_below BN.out hb)
         have J := am (below_step (bs HB.out) hb)
         clear BK BN HB hb
         have BK := G
         have BN := I
         have HB := J
         clear G I J
         obtain rfl := Option.some.inj H
         go_wp2
         go_ret
         exact ⟨eqs, bs HB.out⟩
        ·rw [if_neg c6] at H
         have a4 : decide (0 ≤ t) = false := decide_eq_false c6
         clear c6
         repeat (go_big_quiet_step (with_reducible exact calls_bel (impl_edgeOrder.calls k1 d0 d1 d2 d3 d4 z L O M T t _ A3.out)))
         refine wpQuiet_nil ?_
         intro w9 hw'
         obtain ⟨⟨wq_, hb⟩, hw''⟩ := hw'
         subst hw''
         clear aI aJ aK aL aM aN aO aP aQ aR hqw
         have G := am (blk_below BK.out hb)
         have I := am (blk_below BN.out hb)
         have J := am (below_step (bs HB.out) hb)
         clear BK BN HB hb
         have BK := G
         have BN := I
         have HB := J
         clear G I J
         replace H := Option.bind_eq_some_iff.mp H
         obtain ⟨t1, ar, H⟩ := H
         have A1 := am ar
         clear ar
         have Y : w9.cell? ⟨gn, 0, none⟩ = some (.int .i64 z) := (blk_cell BN.out 0).trans rfl
         have Z : w9.cell? ⟨gn, 1, none⟩ = some (.int .i64 L) := (blk_cell BN.out 1).trans rfl
         have aa : w9.cell? ⟨gn, 2, none⟩ = some (.int .i64 O) := (blk_cell BN.out 2).trans rfl
         have ab : w9.cell? ⟨gn, 3, none⟩ = some (.int .i64 M) := (blk_cell BN.out 3).trans rfl
         have ac : w9.cell? ⟨gn, 4, none⟩ = some (.int .i64 T) := (blk_cell BN.out 4).trans rfl
         go_wp2_with fail
         refine (impl_nodeThere.calls k1 _ _ l1 L O t1 _ ?aq ax.out A1.out).mono ?_
         case aq => exact Kd.C_below aw.out (bs HB.out)
         rintro e aj ⟨rfl, hb⟩
         clear Y Z aa ab ac
         have G := am (blk_below BK.out hb)
         have I := am (blk_below BN.out hb)
         have J := am (below_step (bs HB.out) hb)
         clear BK BN HB hb
         have BK := G
         have BN := I
         have HB := J
         clear G I J
         by_cases c7 : t1 = true
         ·subst c7
          replace H : ((impl_nodeThere.f k1 l1 M T).bind fun t2 => if t2 = true then impl_edgesOk.l0 k1 l0 l1 (m.set (z : Int).toNat (wrap64 (rd m z + 1))) (wrap64 (D + 1)) else some false) = some r := by rw [if_pos rfl] at H; exact H
          replace H := Option.bind_eq_some_iff.mp H
          obtain ⟨t2, au, H⟩ := H
          have A2 := am au
          clear au
          have Y : aj.cell? ⟨gn, 0, none⟩ = some (.int .i64 z) := (blk_cell BN.out 0).trans rfl
          have Z : aj.cell? ⟨gn, 1, none⟩ = some (.int .i64 L) := (blk_cell BN.out 1).trans rfl
          have aa : aj.cell? ⟨gn, 2, none⟩ = some (.int .i64 O) := (blk_cell BN.out 2).trans rfl
          have ab : aj.cell? ⟨gn, 3, none⟩ = some (.int .i64 M) := (blk_cell BN.out 3).trans rfl
          have ac : aj.cell? ⟨gn, 4, none⟩ = some (.int .i64 T) := (blk_cell BN.out 4).trans rfl
          go_wp2_with fail
          refine (impl_nodeThere.calls k1 _ _ l1 M T t2 _ ?aq ax.out A2.out).mono ?_
          case aq => exact Kd.C_below aw.out (bs HB.out)
          rintro e av ⟨rfl, hb⟩
          clear Y Z aa ab ac
          have G := am (blk_below BK.out hb)
          have I := am (blk_below BN.out hb)
          have J := am (below_step (bs HB.out) hb)
          clear BK BN HB hb
          have BK := G
          have BN := I
          have HB := J
          clear G I J
          by_cases c8 : t2 = true
          ·subst c8
           replace H : impl_edgesOk.l0 k1 l0 l1 (m.set (z : Int).toNat (wrap64 (rd m z + 1))) (wrap64 (D + 1)) = some r := by rw [if_pos rfl] at H; exact H
           have H' := am H
           clear H
           obtain ⟨j, rfl⟩ := Int.eq_ofNat_of_zero_le HL.out.1
           have Y : av.cell? ⟨gn, 0, none⟩ = some (.int .i64 (j : Int)) := (blk_cell BN.out 0).trans rfl
           have a5 : j < 8 := by have := HL.out.2; omega
           have hjm : j < m.length := by have := HM.out; omega
           have hcm : av.cell? ⟨gb, j, none⟩ = some (.int .i64 (rd m j)) := (blk_cell BK.out j).trans (cts_get m j hjm)
           have hfm := blk_frozen BK.out j
           have hlo : (0 ≤ (j : Int)) = True := eq_true (by omega)
           have hhi : ((j : Int) < 8) = True := eq_true (by omega)
           go_wp2
           go_roundg k1
           case measure => have := ay.out; omega
           case rel => exact ⟨wrap64 (D + 1), m.set j (wrap64 (rd m (j : Int) + 1)), eqs, ⟨by simpa using H'.out⟩, ⟨by simpa using HM.out⟩, ⟨by have := ay.out; omega⟩, ⟨by refine blk_put ?_ j _ (cts_set m j _); exact bf BK.out⟩, ⟨bs HB.out⟩⟩
          ·replace c8 := Bool.eq_false_iff.mpr c8
           subst c8
           replace H : some false = some r := by rw [if_neg (by decide)] at H; exact H
           obtain rfl := Option.some.inj H
           go_wp2
           go_ret
           exact ⟨eqs, bs HB.out⟩
         ·replace c7 := Bool.eq_false_iff.mpr c7
          subst c7
          replace H : some false = some r := by rw [if_neg (by decide)] at H; exact H
          obtain rfl := Option.some.inj H
          go_wp2
          go_ret
          exact ⟨eqs, bs HB.out⟩
       ·rw [if_neg c5] at H
        have a3 : decide (0 < D) = false := decide_eq_false c5
        clear c5
        go_wp2
        refine wp_region_bel (by kernel_rfl) (by kernel_rfl) ?_
        clear Y Z aa ab ac hcm hfm hlo hhi aG
        replace BK := bd BK
        replace BN := am (blk_drew BN.out)
        replace HB := hd HB
        generalize X.drew = w8 at BK BN HB ⊢
        repeat (go_big_quiet_step (fail))
        refine wpQuiet_nil ?_
        intro w9 hw'
        obtain ⟨⟨wq_, hb⟩, hw''⟩ := hw'
        subst hw''
        have G := am (blk_below BK.out hb)
        have I := am (blk_below BN.out hb)
        have J := am (below_step (bs HB.out) hb)
        clear BK BN HB hb
        have BK := G
        have BN := I
        have HB := J
        clear G I J
        replace H := Option.bind_eq_some_iff.mp H
        obtain ⟨t1, ar, H⟩ := H
        have A1 := am ar
        clear ar
        have Y : w9.cell? ⟨gn, 0, none⟩ = some (.int .i64 z) := (blk_cell BN.out 0).trans rfl
        have Z : w9.cell? ⟨gn, 1, none⟩ = some (.int .i64 L) := (blk_cell BN.out 1).trans rfl
        have aa : w9.cell? ⟨gn, 2, none⟩ = some (.int .i64 O) := (blk_cell BN.out 2).trans rfl
        have ab : w9.cell? ⟨gn, 3, none⟩ = some (.int .i64 M) := (blk_cell BN.out 3).trans rfl
        have ac : w9.cell? ⟨gn, 4, none⟩ = some (.int .i64 T) := (blk_cell BN.out 4).trans rfl
        go_wp2_with fail
        refine (impl_nodeThere.calls k1 _ _ l1 L O t1 _ ?aq ax.out A1.out).mono ?_
        case aq => exact Kd.C_below aw.out (bs HB.out)
        rintro e aj ⟨rfl, hb⟩
        clear Y Z aa ab ac
        have G := am (blk_below BK.out hb)
        have I := am (blk_below BN.out hb)
        have J := am (below_step (bs HB.out) hb)
        clear BK BN HB hb
        have BK := G
        have BN := I
        have HB := J
        clear G I J
        by_cases c7 : t1 = true
        ·subst c7
         replace H : ((impl_nodeThere.f k1 l1 M T).bind fun t2 => if t2 = true then impl_edgesOk.l0 k1 l0 l1 (m.set (z : Int).toNat (wrap64 (rd m z + 1))) (wrap64 (D + 1)) else some false) = some r := by rw [if_pos rfl] at H; exact H
         replace H := Option.bind_eq_some_iff.mp H
         obtain ⟨t2, au, H⟩ := H
         have A2 := am au
         clear au
         have Y : aj.cell? ⟨gn, 0, none⟩ = some (.int .i64 z) := (blk_cell BN.out 0).trans rfl
         have Z : aj.cell? ⟨gn, 1, none⟩ = some (.int .i64 L) := (blk_cell BN.out 1).trans rfl
         have aa : aj.cell? ⟨gn, 2, none⟩ = some (.int .i64 O) := (blk_cell BN.out 2).trans rfl
         have ab : aj.cell? ⟨gn, 3, none⟩ = some (.int .i64 M) := (blk_cell BN.out 3).trans rfl
         have ac : aj.cell? ⟨gn, 4, none⟩ = some (.int .i64 T) := (blk_cell BN.out 4).trans rfl
         go_wp2_with fail
         refine (impl_nodeThere.calls k1 _ _ l1 M T t2 _ ?aq ax.out A2.out).mono ?_
         case aq => exact Kd.C_below aw.out (bs HB.out)
         rintro e av ⟨rfl, hb⟩
         clear Y Z aa ab ac
         have G := am (blk_below BK.out hb)
         have I := am (blk_below BN.out hb)
         have J := am (below_step (bs HB.out) hb)
         clear BK BN HB hb
         have BK := G
         have BN := I
         have HB := J
         clear G I J
         by_cases c8 : t2 = true
         ·subst c8
          replace H : impl_edgesOk.l0 k1 l0 l1 (m.set (z : Int).toNat (wrap64 (rd m z + 1))) (wrap64 (D + 1)) = some r := by rw [if_pos rfl] at H; exact H
          have H' := am H
          clear H
          obtain ⟨j, rfl⟩ := Int.eq_ofNat_of_zero_le HL.out.1
          have Y : av.cell? ⟨gn, 0, none⟩ = some (.int .i64 (j : Int)) := (blk_cell BN.out 0).trans rfl
          have a5 : j < 8 := by have := HL.out.2; omega
          have hjm : j < m.length := by have := HM.out; omega
          have hcm : av.cell? ⟨gb, j, none⟩ = some (.int .i64 (rd m j)) := (blk_cell BK.out j).trans (cts_get m j hjm)
          have hfm := blk_frozen BK.out j
          have hlo : (0 ≤ (j : Int)) = True := eq_true (by omega)
          have hhi : ((j : Int) < 8) = True := eq_true (by omega)
          go_wp2
          go_roundg k1
          case measure => have := ay.out; omega
          case rel => exact ⟨wrap64 (D + 1), m.set j (wrap64 (rd m (j : Int) + 1)), eqs, ⟨by simpa using H'.out⟩, ⟨by simpa using HM.out⟩, ⟨by have := ay.out; omega⟩, ⟨by refine blk_put ?_ j _ (cts_set m j _); exact bf BK.out⟩, ⟨bs HB.out⟩⟩
         ·replace c8 := Bool.eq_false_iff.mpr c8
          subst c8
          replace H : some false = some r := by rw [if_neg (by decide)] at H; exact H
          obtain rfl := Option.some.inj H
          go_wp2
          go_ret
          exact ⟨eqs, bs HB.out⟩
        ·replace c7 := Bool.eq_false_iff.mpr c7
         subst c7
         replace H : some false = some r := by rw [if_neg (by decide)] at H; exact H
         obtain rfl := Option.some.inj H
         go_wp2
         go_ret
         exact ⟨eqs, bs HB.out⟩
     ·rw [if_neg c3] at H
      replace c3 := Bool.eq_false_iff.mpr c3
      obtain rfl := Option.some.inj H
      rw [c3]
      go_wp2
      go_ret
      exact ⟨eqs, bs HB.out⟩
    ·rw [if_neg c2] at H; cases H
   ·rw [if_neg c1] at H
    have aT : decide (D < (l0.length : Int)) = false := decide_eq_false c1
    clear c1
    obtain rfl := Option.some.inj H
    go_wp2
    go_ret
    exact ⟨eqs, bs HB.out⟩

/-! ### impl_GraphOk: function 34 -/
def impl_GraphOk.f (k : Nat) (s : List (S36)) (z : List (S56)) : Option (Bool) := (impl_nodesOk.f k s).bind fun D => (if D = true then ((impl_edgesOk.f k z s).bind fun G => (some G)) else (some false))
theorem impl_GraphOk.calls (k : Nat) (G : Option Addr) (I : Nat) (s : List (S36)) (M : Option Addr) (O : Nat) (D : List (S56)) (r : Bool) (w : World) (aa : Kd.C k36 w G s.length s) (ab : s.length ≤ I) (ac : Kd.C k56 w M D.length D) (ae : D.length ≤ O) (h : impl_GraphOk.f k s D = some r) :
  Calls Try.prog 34 #[.agg #[.slice G s.length I, .slice M D.length O]] w fun e w' => e = .returned (.bool r) ∧ Below w.heap.size w w' := by
 have hu34 := Try.underlying34
 have X := am aa
 have Y := am ab
 clear aa ab
 have ah := am ac
 have ai := am ae
 clear ac ae
 have HB := am (Below.refl w.heap.size w)
 have H := h; unfold impl_GraphOk.f at H
 clear h
 replace H := Option.bind_eq_some_iff.mp H
 obtain ⟨aj, af, H⟩ := H
 try dsimp -simprocs only at H
 have A2 := am af
 clear af
 by_cases T : aj = true
 ·subst T
  replace H : ((impl_edgesOk.f k D s).bind fun Z => (some Z)) = some r := by rw [if_pos rfl] at H; exact H
  replace H := Option.bind_eq_some_iff.mp H
  obtain ⟨Z, ag, H⟩ := H
  try dsimp -simprocs only at H
  have A4 := am ag
  clear ag
  obtain rfl := Option.some.inj H
  go_enter Try.func34, Try.ntmps34
  go_wp2_with (first | ((with_reducible refine gd 1 rfl ?_); refine bx 1 (cs := #[.slice G s.length I, .slice M D.length O]) (t := 34) ?_; intro ak hg w5 hbox hb; have z := am hbox; have al := gwb HB hg; replace HB := hs HB hb; clear hb hbox hg; obtain ⟨aq, ar⟩ := bc2 (w := w5) z.out; have au := blk_frozen z.out) | ((with_reducible refine gc 81 rfl ?_); refine gl 5 Try.func81 #[.slice G s.length I] ?_; (with_reducible refine (impl_nodesOk.calls k _ _ s true _ ?J ?L A2.out).mono ?_); (case J => exact Kd.C_below X.out (bs HB.out)); (case L => exact Y.out); rintro e w7 ⟨rfl, hb⟩; refine ⟨_, rfl, ?_⟩; replace z := bb z hb rfl; replace HB := hs HB hb; (try clear hb); obtain ⟨av, aw⟩ := bc2 (w := w7) z.out; have ax := blk_frozen z.out) | (go_at_call 82; (with_reducible refine (impl_edgesOk.calls k _ _ D _ _ s Z _ ?J ?L ?an ?ao A4.out).mono ?_); (case J => exact Kd.C_below ah.out (bs HB.out)); (case L => exact ai.out); (case an => exact Kd.C_below X.out (bs HB.out)); (case ao => exact Y.out); rintro e w9 ⟨rfl, hb⟩; replace z := bb z hb rfl; replace HB := hs HB hb; (try clear hb)))
  go_ret
  exact ⟨eqr, bs HB.out⟩
 ·replace T := Bool.eq_false_iff.mpr T
  subst T
  have H1 : (some false) = some r := by rw [if_neg (show ¬ (false = true) by decide)] at H; exact H
  clear H
  have H := H1
  clear H1
  obtain rfl := Option.some.inj H
  go_enter Try.func34, Try.ntmps34
  go_wp2_with (first | ((with_reducible refine gd 1 rfl ?_); refine bx 1 (cs := #[.slice G s.length I, .slice M D.length O]) (t := 34) ?_; intro ak hg ap hbox hb; have z := am hbox; have al := gwb HB hg; replace HB := hs HB hb; clear hb hbox hg; obtain ⟨ay, az⟩ := bc2 (w := ap) z.out; have aA := blk_frozen z.out) | ((with_reducible refine gc 81 rfl ?_); refine gl 5 Try.func81 #[.slice G s.length I] ?_; (with_reducible refine (impl_nodesOk.calls k _ _ s false _ ?J ?L A2.out).mono ?_); (case J => exact Kd.C_below X.out (bs HB.out)); (case L => exact Y.out); rintro e aB ⟨rfl, hb⟩; refine ⟨_, rfl, ?_⟩; replace z := bb z hb rfl; replace HB := hs HB hb; (try clear hb)))
  go_ret
  exact ⟨eqr, bs HB.out⟩

/-- A state of type 126 at block g of W; what its slices lead to came in by w0. -/
def IsS126 (w0 W : World) (g : Nat) (f0 : List Int) (f1 : Int) : Prop := ∃ s z, W.heap[g]? = some (.cells #[.slice s f0.length z, .int .i64 f1] 126 (0, 0)) ∧ w0.heap.size ≤ g ∧ Kd.C (Kd.int .u8) w0 s f0.length f0
theorem IsS126.grown {w0 W : World} {g : Nat} {f0 : List Int} {f1 : Int} {W1 : World} {row : Option Nat} (h : IsS126 w0 W g f0 f1) (hw : W.grownBy W1 row) (hne : some g ≠ row) : IsS126 w0 W1 g f0 f1 := by
 obtain ⟨s, z, hb, hg, D⟩ := h
 exact ⟨s, z, blk_grown hb hw hne, hg, D⟩
theorem IsS126.own_neN {w0 W : World} {g : Nat} {f0 : List Int} {f1 : Int} {α : Type} {d : Kd α} {e : Nat} {base : Nat} {ok : Nat → Prop} {v : Value} {xs : List α} (h : IsS126 w0 W g f0 f1) (ho : Kd.N d e W base ok v xs) (ht : e ≠ 126) : some g ≠ v.ownBlock := by
 obtain ⟨s, z, hb, hg, D⟩ := h
 exact Kd.N_ne ho hb ht
theorem IsS126.fresh {w0 W : World} {g : Nat} {f0 : List Int} {f1 : Int} (h : IsS126 w0 W g f0 f1) : ∀ k, W.heap.size ≤ k → k ≠ g := by
 obtain ⟨s, z, hb, hg, D⟩ := h
 exact Kd.freshB hb
theorem IsS126.kept {w0 W : World} {g : Nat} {f0 : List Int} {f1 : Int} {W1 : World} {S : Nat → Prop} (h : IsS126 w0 W g f0 f1) (hk : Kept W W1 S) (hne : ¬ S g) : IsS126 w0 W1 g f0 f1 := by
 obtain ⟨s, z, hb, hg, D⟩ := h
 exact ⟨s, z, blk_kept hb hk hne, hg, D⟩
theorem IsS126.below {w0 W : World} {g : Nat} {f0 : List Int} {f1 : Int} {W1 : World} (h : IsS126 w0 W g f0 f1) (hw : Below W.heap.size W W1) : IsS126 w0 W1 g f0 f1 := h.grown (grown_of_below hw none) (by simp)
theorem IsS126.alloc {w0 W : World} {g : Nat} {f0 : List Int} {f1 : Int} (h : IsS126 w0 W g f0 f1) (o : Obj) : IsS126 w0 (W.alloc o) g f0 f1 := h.below (below_alloc (Below.refl _ _) o)
theorem IsS126.drewN {w0 W : World} {g : Nat} {f0 : List Int} {f1 : Int} (h : IsS126 w0 W g f0 f1) (m : Nat) : IsS126 w0 (W.drewN m) g f0 f1 := h
theorem IsS126.drew {w0 W : World} {g : Nat} {f0 : List Int} {f1 : Int} (h : IsS126 w0 W g f0 f1) : IsS126 w0 W.drew g f0 f1 := h
theorem IsS126.at_ {w0 W : World} {g : Nat} {f0 : List Int} {f1 : Int} {w' : World} {m : Nat} (hq : W.drewN m = w') (h : IsS126 w0 W g f0 f1) : IsS126 w0 w' g f0 f1 := by subst hq; exact IsS126.drewN h m
theorem IsS126.apart {w0 W : World} {g : Nat} {f0 : List Int} {f1 : Int} {α : Type} {d : Kd α} {e : Nat} {base : Nat} {ok : Nat → Prop} {v : Value} {xs : List α} (h : IsS126 w0 W g f0 f1) (ho : d.R e W base ok v xs) (ht : ∀ q, q ∈ e :: d.E → q ≠ 126) : d.R e W base (fun k => ok k ∧ k ≠ g) v xs := by
 obtain ⟨s, z, hb, hg, D⟩ := h
 exact Kd.R_types ho hb ht
theorem IsS126.own_ne {w0 W : World} {g : Nat} {f0 : List Int} {f1 : Int} {α : Type} {d : Kd α} {e : Nat} {base : Nat} {ok : Nat → Prop} {v : Value} {xs : List α} (h : IsS126 w0 W g f0 f1) (ho : d.R e W base ok v xs) (ht : e ≠ 126) : some g ≠ v.ownBlock := by
 obtain ⟨s, z, hb, hg, D⟩ := h
 exact Kd.R_ne ho hb ht
theorem IsS126.apartQ {w0 W : World} {g : Nat} {f0 : List Int} {f1 : Int} {α : Type} {d : Kd α} {e : Nat} {base : Nat} {ok : Nat → Prop} {v : Value} {xs : List α} (h : IsS126 w0 W g f0 f1) (ho : d.Q e W base ok v xs) (ht : ∀ q, q ∈ e :: d.E → q ≠ 126) : d.Q e W base (fun k => ok k ∧ k ≠ g) v xs := by
 obtain ⟨s, z, hb, hg, D⟩ := h
 exact Kd.Q_types ho hb ht
theorem IsS126.own_neQ {w0 W : World} {g : Nat} {f0 : List Int} {f1 : Int} {α : Type} {d : Kd α} {e : Nat} {base : Nat} {ok : Nat → Prop} {v : Value} {xs : List α} (h : IsS126 w0 W g f0 f1) (ho : d.Q e W base ok v xs) (ht : e ≠ 126) : some g ≠ v.ownBlock := by
 obtain ⟨s, z, hb, hg, D⟩ := h
 exact Kd.Q_ne ho hb ht
theorem IsS126.apartS {w0 W : World} {g : Nat} {f0 : List Int} {f1 : Int} {α : Type} {d : Kd α} {e : Nat} {base : Nat} {ok : Nat → Prop} {v : Value} {xs : List α} (h : IsS126 w0 W g f0 f1) (ho : d.S e W base ok v xs) (ht : ∀ q, q ∈ e :: d.E → q ≠ 126) : d.S e W base (fun k => ok k ∧ k ≠ g) v xs := by
 obtain ⟨s, z, hb, hg, D⟩ := h
 exact Kd.S_types ho hb ht
theorem IsS126.own_neS {w0 W : World} {g : Nat} {f0 : List Int} {f1 : Int} {α : Type} {d : Kd α} {e : Nat} {base : Nat} {ok : Nat → Prop} {v : Value} {xs : List α} (h : IsS126 w0 W g f0 f1) (ho : d.S e W base ok v xs) (ht : e ≠ 126) : some g ≠ v.ownBlock := by
 obtain ⟨s, z, hb, hg, D⟩ := h
 exact Kd.S_ne ho hb ht
theorem IsS126.lt {w0 W : World} {g : Nat} {f0 : List Int} {f1 : Int} (h : IsS126 w0 W g f0 f1) : g < W.heap.size := by
 obtain ⟨s, z, hb, hg, D⟩ := h
 exact blk_lt hb
theorem IsS126.ge {w0 W : World} {g : Nat} {f0 : List Int} {f1 : Int} (h : IsS126 w0 W g f0 f1) : w0.heap.size ≤ g := by
 obtain ⟨s, z, hb, hg, D⟩ := h
 exact hg
theorem IsS126.ne_blk {w0 W : World} {g : Nat} {f0 : List Int} {f1 : Int} {a : Nat} {cs : Array Value} {t : TypeId} {fr : Nat × Nat} (h : IsS126 w0 W g f0 f1) (hb2 : W.heap[a]? = some (.cells cs t fr)) (ht : t ≠ 126) : g ≠ a := by
 obtain ⟨s, z, hb, hg, D⟩ := h
 rintro rfl
 rw [hb] at hb2
 injection hb2 with hb2
 injection hb2 with _ ht2
 exact ht ht2.symm
theorem IsS126.far {w0 W : World} {g : Nat} {f0 : List Int} {f1 : Int} {p : Addr} (h : IsS126 w0 W g f0 f1) (hne : g ≠ p.block) (u : Value) : IsS126 w0 (W.setCell p u) g f0 f1 := by
 obtain ⟨s, z, hb, hg, D⟩ := h
 exact ⟨s, z, blk_far hb hne u, hg, D⟩
theorem cellS126_0 {W : World} {g : Nat} {s : Option Addr} {z : Nat} {f0 : List Int} {f1 : Int} (h : W.heap[g]? = some (.cells #[.slice s f0.length z, .int .i64 f1] 126 (0, 0))) : W.cell? ⟨g, 0, none⟩ = some (.slice s f0.length z) := (blk_cell h 0).trans rfl
theorem cellS126_1 {W : World} {g : Nat} {s : Option Addr} {z : Nat} {f0 : List Int} {f1 : Int} (h : W.heap[g]? = some (.cells #[.slice s f0.length z, .int .i64 f1] 126 (0, 0))) : W.cell? ⟨g, 1, none⟩ = some (.int .i64 f1) := (blk_cell h 1).trans rfl
theorem IsS126.set_1 {w0 W : World} {g : Nat} {f0 : List Int} {f1 : Int} (h : IsS126 w0 W g f0 f1) (x : Int) : IsS126 w0 (W.setCell ⟨g, 1, none⟩ (.int .i64 x)) g f0 x := by
 obtain ⟨z, D, hb, hg, G⟩ := h
 exact ⟨z, D, by simpa using blk_set hb 1 (.int .i64 x), hg, G⟩
theorem IsS126.new (w0 W : World) (s : Option Addr) (z : Nat) (f0 : List Int) (f1 : Int) (hB : Below w0.heap.size w0 W) (D : Kd.C (Kd.int .u8) w0 s f0.length f0) : IsS126 w0 (W.alloc (.cells #[.slice s f0.length z, .int .i64 f1] 126)) W.heap.size f0 f1 := ⟨s, z, by simpa using heap_alloc_new W _, hB.size, D⟩
/-- What stays of the state behind draws, new blocks, stores. -/
class Hs (w0 W W' : World) (g : Nat) (f0 : List Int) (f1 : Int) (f2 : outParam Int) : Prop where out : IsS126 w0 W g f0 f1 → IsS126 w0 W' g f0 f2
instance {w0 W : World} {g : Nat} {f0 : List Int} {f1 : Int} : Hs w0 W W g f0 f1 f1 := ⟨id⟩
instance {w0 W W' : World} {g : Nat} {f0 : List Int} {f1 f2 : Int} [h : Hs w0 W W' g f0 f1 f2] : Hs w0 W W'.drew g f0 f1 f2 := ⟨fun x => IsS126.drew (h.out x)⟩
instance {w0 W W' : World} {g : Nat} {f0 : List Int} {f1 f2 : Int} [h : Hs w0 W W' g f0 f1 f2] (m : Nat) : Hs w0 W (W'.drewN m) g f0 f1 f2 := ⟨fun x => IsS126.drewN (h.out x) m⟩
instance {w0 W W' : World} {g : Nat} {f0 : List Int} {f1 f2 : Int} [h : Hs w0 W W' g f0 f1 f2] (o : Obj) : Hs w0 W (W'.alloc o) g f0 f1 f2 := ⟨fun x => IsS126.alloc (h.out x) o⟩
instance {w0 W W' : World} {g b j : Nat} {v : Value} {f0 : List Int} {f1 f2 : Int} [h : Hs w0 W W' g f0 f1 f2] [k : Nq g b] : Hs w0 W (W'.setCell ⟨b, j, none⟩ v) g f0 f1 f2 := ⟨fun x => IsS126.far (h.out x) k.out v⟩
instance {w0 W W' : World} {g : Nat} {y : Int} {f0 : List Int} {f1 f2 : Int} [h : Hs w0 W W' g f0 f1 f2] : Hs w0 W (W'.setCell ⟨g, 1, none⟩ (.int .i64 y)) g f0 f1 y := ⟨fun x => IsS126.set_1 (h.out x) y⟩
theorem iis {w0 W W' : World} {g : Nat} {f0 : List Int} {f1 f2 : Int} (h : IsS126 w0 W g f0 f1) [k : Hs w0 W W' g f0 f1 f2] : IsS126 w0 W' g f0 f2 := k.out h
theorem ib {w0 W W' W2 : World} {g : Nat} {f0 : List Int} {f1 f2 : Int} (h : Aside0 (IsS126 w0 W g f0 f1)) (hb : Below W'.heap.size W' W2) [k : Hs w0 W W' g f0 f1 f2] : Aside0 (IsS126 w0 W2 g f0 f2) := ⟨IsS126.below (k.out h.out) hb⟩
theorem nlt {w0 W W' : World} {g q : Nat} {f0 : List Int} {f1 f2 : Int} (h : Aside0 (IsS126 w0 W g f0 f1)) (hg : q = W'.heap.size) [k : Hs w0 W W' g f0 f1 f2] : Nq g q := ⟨by rw [hg]; exact Nat.ne_of_lt (IsS126.lt (k.out h.out))⟩
theorem ro {α : Type} {d : Kd α} {e base : Nat} {ok : Nat → Prop} {v : Value} {xs : List α} {w0 W V W' W2 : World} {g : Nat} {f0 : List Int} {f1 f2 : Int} (r : Aside0 (d.R e V base ok v xs)) (h : Aside0 (IsS126 w0 W g f0 f1)) (hk : KeepBut W' W2 g none) [j : Rf V W'] [k : Hs w0 W W' g f0 f1 f2]
    (ht : ∀ q, q ∈ e :: d.E → q ≠ 126 := by decide) : Aside0 (d.R e W2 base ok v xs) := ⟨Kd.R_mono (Kd.R_keep (IsS126.apart (k.out h.out) (rl r.out) ht) hk (fun _ h => h.2)) (fun _ h => h.1)⟩
theorem rp {α : Type} {d : Kd α} {e base : Nat} {ok : Nat → Prop} {v : Value} {xs : List α} {w0 W V W' W2 : World} {g p t : Nat} {cs : Array Value} {f0 : List Int} {f1 f2 : Int} (r : Aside0 (d.R e V base ok v xs)) (b : Aside0 (V.heap[p]? = some (.cells cs t (0, 0)))) (h : Aside0 (IsS126 w0 W g f0 f1))
    (hk : KeepBut W' W2 g none) [j : Sf p V W'] [k : Hs w0 W W' g f0 f1 f2] (hp : ∀ q, q ∈ e :: d.E → q ≠ t := by decide) (ht : ∀ q, q ∈ e :: d.E → q ≠ 126 := by decide) : Aside0 (d.R e W2 base ok v xs) :=
  ⟨Kd.R_mono (Kd.R_keep (IsS126.apart (k.out h.out) (rt r.out b.out hp) ht) hk (fun _ h => h.2)) (fun _ h => h.1)⟩

/-! ### spec_l9Open: function 86 -/
def spec_l9Open.f (l0 : List Int) : Option (List Int × Int) := if (l0.length : Int) > 2000 then (if 2000 ≤ (l0.length : Int) then (some (l0.take 2000, 0)) else (none)) else (some (l0, 0))
theorem spec_l9Open.calls (z : Option Addr) (D : Nat) (l0 : List Int) (L : List Int) (M : Int) (w0 w : World) (hB : Below w0.heap.size w0 w) (O : Kd.C (Kd.int .u8) w0 z l0.length l0) (T : l0.length ≤ D) (h : spec_l9Open.f l0 = some (L, M)) :
  Calls Try.prog 86 #[.slice z l0.length D] w fun e w' => ∃ g_ : Nat, e = .returned (.pointer (some ⟨g_, 0, none⟩)) ∧ IsS126 w0 w' g_ L M ∧ Below w0.heap.size w0 w' ∧ Below w.heap.size w w' := by
 have hu126 := Try.underlying126
 have X := am O
 have af := am T
 clear O T
 have HBW := am (Below.refl w.heap.size w)
 have Y := am hB.size
 have HB := am hB
 clear hB
 have H := h; unfold spec_l9Open.f at H
 clear h
 by_cases s : (l0.length : Int) > 2000
 ·rw [if_pos s] at H
  have ag : decide (2000 < (l0.length : Int)) = true := decide_eq_true s
  have ah : decide (2000 < l0.length) = true := decide_eq_true (by omega)
  clear s
  by_cases G : 2000 ≤ (l0.length : Int)
  ·rw [if_pos G] at H
   have aq := eq_true G
   have ar : decide (2000 ≤ (l0.length : Int)) = true := decide_eq_true G
   clear G
   simp only [Option.some.injEq, Prod.mk.injEq] at H
   obtain ⟨rfl, rfl⟩ := H
   obtain ⟨au, Z, _, aa, _⟩ := info_parts info5
   obtain ⟨av, ab, ac⟩ := print_take_of (P := Try.prog) (Value.int .u8) 0 51 5 .i64 Try.underlying51 Z aa z D l0 2000 (by omega) (oda) af.out
   have ai := am (Kd.C_of_reads (h1 := fun _ => rfl) (ab _ (Kd.reads_of_C X.out)))
   have aw := am ac
   clear ab ac Z aa
   go_enter Try.func86, Try.ntmps86
   go_wp2_with (first | ((with_reducible refine gd 10 rfl ?_); refine bx 10 (cs := #[.slice z (l0.take 2000).length D, .int .i64 0]) (t := 126) ?_; intro I hg w5 hbox hb; replace HB := hs HB hb; have aj := am hbox; have ak := Ge.mk ((by rw [hg]; exact (below_size (by repeat (first | (with_reducible first | exact HBW.out | apply below_alloc | apply pw_below_drewN | apply below_drew1) | exact HBW.out))) : w.heap.size ≤ I)); have al := Ge.mk ((Nat.le_trans Y.out (by rw [hg]; exact (below_size (by repeat (first | (with_reducible first | exact HBW.out | apply below_alloc | apply pw_below_drewN | apply below_drew1) | exact HBW.out))) : w.heap.size ≤ I) : w0.heap.size ≤ I)); replace HBW := am (below_step HBW.out hb); clear hb hbox hg))
   go_ret
   exact ⟨_, rfl, (show IsS126 w0 _ I (l0.take 2000) 0 from ⟨_, _, by exact bf aj.out, al.out, ai.out⟩), bs HB.out, by repeat (first | (with_reducible first | exact HBW.out | apply below_alloc | apply pw_below_drewN | apply below_drew1 | refine below_set ?_ ak.out) | exact HBW.out)⟩
  ·rw [if_neg G] at H
   exact absurd H (by simp)
 ·rw [if_neg s] at H
  have ag : decide (2000 < (l0.length : Int)) = false := decide_eq_false s
  have ah : decide (2000 < l0.length) = false := decide_eq_false (by omega)
  clear s
  simp only [Option.some.injEq, Prod.mk.injEq] at H
  obtain ⟨rfl, rfl⟩ := H
  go_enter Try.func86, Try.ntmps86
  go_wp2_with (first | ((with_reducible refine gd 10 rfl ?_); refine bx 10 (cs := #[.slice z l0.length D, .int .i64 0]) (t := 126) ?_; intro J hg w6 hbox hb; replace HB := hs HB hb; have an := am hbox; have ao := Ge.mk ((by rw [hg]; exact (below_size (by repeat (first | (with_reducible first | exact HBW.out | apply below_alloc | apply pw_below_drewN | apply below_drew1) | exact HBW.out))) : w.heap.size ≤ J)); have ap := Ge.mk ((Nat.le_trans Y.out (by rw [hg]; exact (below_size (by repeat (first | (with_reducible first | exact HBW.out | apply below_alloc | apply pw_below_drewN | apply below_drew1) | exact HBW.out))) : w.heap.size ≤ J) : w0.heap.size ≤ J)); replace HBW := am (below_step HBW.out hb); clear hb hbox hg))
  go_ret
  exact ⟨_, rfl, (show IsS126 w0 _ J l0 0 from ⟨_, _, by exact bf an.out, ap.out, X.out⟩), bs HB.out, by repeat (first | (with_reducible first | exact HBW.out | apply below_alloc | apply pw_below_drewN | apply below_drew1 | refine below_set ?_ ao.out) | exact HBW.out)⟩

end Go.Proofs.Ytohmemckdogljaa.QFnGraphBent
