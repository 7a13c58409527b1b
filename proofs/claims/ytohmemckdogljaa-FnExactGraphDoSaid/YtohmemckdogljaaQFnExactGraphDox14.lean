/- Contracts of the Go functions that this law reaches: each does what its plain Lean function says. No condition. -/
import Derived.Test.YtohmemckdogljaaQFnExactGraphDox0
import Derived.Test.YtohmemckdogljaaQFnExactGraphDox13
namespace Go.Proofs.Ytohmemckdogljaa.QFnExactGraphDo
open Go.RowKit Go.Proofs.YtohmemckdogljaaW.PrintWords Go.Proofs.YtohmemckdogljaaW.PrintLast Go.Proofs.YtohmemckdogljaaW.PrintMore Go.Proofs.Ytohmemckdogljaa.Bl
attribute [local go_sem] max2_int min2_int max_two min_two max_three min_three max_four min_four   -- for this text's walks alone
set_option linter.unusedVariables false
set_option linter.unusedSimpArgs false
set_option maxHeartbeats 8000000
set_option maxRecDepth 100000

/-! ### impl_NodeCode: function 116 -/
def impl_NodeCode.f (s : Int) (z : Int) : Option (Int) := (impl_NodeOk.f s z).bind fun D => (if D = true then (some (wrap64 ((wrap64 (64 * s)) + z))) else (some (-1)))
theorem impl_NodeCode.calls (D : Int) (I : Int) (r : Int) (w : World) (h : impl_NodeCode.f D I = some r) :
  Calls Try.prog 116 #[.agg #[.int .i64 D, .int .i64 I]] w fun e w' => e = .returned (.int .i64 r) ∧ Below w.heap.size w w' := by
 have hu36 := Try.underlying36
 have HB := am (Below.refl w.heap.size w)
 have H := h; unfold impl_NodeCode.f at H
 clear h
 replace H := Option.bind_eq_some_iff.mp H
 obtain ⟨T, L, H⟩ := H
 try dsimp -simprocs only at H
 have O := am L
 clear L
 by_cases J : T = true
 ·subst J
  replace H : (some (wrap64 ((wrap64 (64 * D)) + I))) = some r := by rw [if_pos rfl] at H; exact H
  obtain rfl := Option.some.inj H
  go_enter Try.func116, Try.ntmps116
  go_wp2_with (first | ((with_reducible refine gd 1 rfl ?_); refine bx 1 (cs := #[.int .i64 D, .int .i64 I]) (t := 36) ?_; intro X hg Y hbox hb; have s := am hbox; have Z := gwb HB hg; replace HB := hs HB hb; clear hb hbox hg; obtain ⟨aa, ab⟩ := bc2 (w := Y) s.out; have ac := blk_frozen s.out) | ((with_reducible refine gc 92 rfl ?_); refine gl 4 Try.func92 #[.agg #[.int .i64 D, .int .i64 I]] ?_; (with_reducible refine (impl_NodeOk.calls D I true _ O.out).mono ?_); rintro e w6 ⟨rfl, hb⟩; refine ⟨_, rfl, ?_⟩; replace s := bb s hb rfl; replace HB := hs HB hb; (try clear hb); obtain ⟨ae, af⟩ := bc2 (w := w6) s.out; have ag := blk_frozen s.out))
  go_ret
  exact ⟨eqr, bs HB.out⟩
 ·replace J := Bool.eq_false_iff.mpr J
  subst J
  have H1 : (some (-1)) = some r := by rw [if_neg (show ¬ (false = true) by decide)] at H; exact H
  clear H
  have H := H1
  clear H1
  obtain rfl := Option.some.inj H
  go_enter Try.func116, Try.ntmps116
  go_wp2_with (first | ((with_reducible refine gd 1 rfl ?_); refine bx 1 (cs := #[.int .i64 D, .int .i64 I]) (t := 36) ?_; intro X hg w8 hbox hb; have s := am hbox; have Z := gwb HB hg; replace HB := hs HB hb; clear hb hbox hg; obtain ⟨ah, ai⟩ := bc2 (w := w8) s.out; have aj := blk_frozen s.out) | ((with_reducible refine gc 92 rfl ?_); refine gl 4 Try.func92 #[.agg #[.int .i64 D, .int .i64 I]] ?_; (with_reducible refine (impl_NodeOk.calls D I false _ O.out).mono ?_); rintro e ak ⟨rfl, hb⟩; refine ⟨_, rfl, ?_⟩; replace s := bb s hb rfl; replace HB := hs HB hb; (try clear hb)))
  go_ret
  exact ⟨eqr, bs HB.out⟩

/-! ### impl_EdgeOk: function 93 -/
theorem iIs (a : Int) : impl_LabelOk.f a = some (isL a) := by
  unfold impl_LabelOk.f isL
  by_cases h : 0 ≤ a
  · rw [if_pos h]; simp [h]
  · rw [if_neg h]; simp [h]
theorem iU8 : ∀ a b : Fin 8, impl_LabelUnder.f (a.val : Int) (b.val : Int) = some (U a.val b.val) := by decide +kernel
theorem iU (a b : Int) : impl_LabelUnder.f a b = some (U a b) := by
  by_cases ha : isL a = true
  · by_cases hb : isL b = true
    · obtain ⟨x, rfl⟩ := fin8 ha
      obtain ⟨y, rfl⟩ := fin8 hb
      exact iU8 x y
    · simp [impl_LabelUnder.f, iIs, U, ha, hb]
  · simp [impl_LabelUnder.f, iIs, U, ha]
theorem iN (a b : Int) : impl_NodeOk.f a b = some (nOk a b) := by
  unfold impl_NodeOk.f
  rw [iIs]
  cases h : isL a
  · simp [nOk, h]
  · by_cases hb : 0 ≤ b
    · simp [nOk, h, hb]
    · simp [nOk, h, hb]
theorem iC (a b : Int) : impl_NodeCode.f a b = some (Cd a b) := by
  unfold impl_NodeCode.f Cd
  rw [iN]
  cases h : nOk a b
  · simp
  · have h' := nOk_iff.1 h
    simp only [Option.bind_some, if_true, w64 (x := 64 * a) (by omega), w64 (x := 64 * a + b) (by omega)]
def impl_EdgeOk.f (s : Int) (z : Int) (D : Int) (I : Int) (J : Int) : Option (Bool) := some (EOk s z D I J)
set_option maxHeartbeats 8000000 in
set_option maxRecDepth 100000 in
theorem impl_EdgeOk.calls (I : Int) (s : Int) (J : Int) (z : Int) (L : Int) (r : Bool) (w : World) (h : impl_EdgeOk.f I s J z L = some r) :
    Calls Try.prog 93 #[.agg #[.int .i64 I, .int .i64 s, .int .i64 J, .int .i64 z, .int .i64 L]] w fun e w' => e = .returned (.bool r) ∧ Below w.heap.size w w' := by
  have hu56 := Try.underlying56
  have hu36 := Try.underlying36
  have HB := am (Below.refl w.heap.size w)
  obtain rfl := Option.some.inj h
  clear h
  have F : ∀ (b1 b2 b3 b4 b5 b6 : Bool), isL I = b1 → nOk s J = b2 → nOk z L = b3 → decide (Cd s J < Cd z L) = b4 → U s I = b5 → U z I = b6 →
      Calls Try.prog 93 #[.agg #[.int .i64 I, .int .i64 s, .int .i64 J, .int .i64 z, .int .i64 L]] w fun e w' => e = .returned (.bool (b1 && (b2 && (b3 && (b4 && (b5 && b6)))))) ∧ Below w.heap.size w w' := by
    intro b1 b2 b3 b4 b5 b6 h1 h2 h3 h4 h5 h6
    have X := am ((iIs I).trans (congrArg some h1))
    have Y := am ((iN s J).trans (congrArg some h2))
    have Z := am ((iN z L).trans (congrArg some h3))
    have A5 := am ((iU s I).trans (congrArg some h5))
    have A6 := am ((iU z I).trans (congrArg some h6))
    clear h1 h2 h3 h5 h6
    go_enter Try.func93, Try.ntmps93
    go_wp2_with (first | ((with_reducible refine gate_dst (N := 1) rfl ?_); refine box_event ?hg (N := 1) ?hd (cs := #[.int .i64 I, .int .i64 s, .int .i64 J, .int .i64 z, .int .i64 L]) (t := 56) ?hr ?_; (case hd => rfl); (case hg => rfl); (case hr => first | (go_simp; done) | (go_simp; rfl)); intro gb hg O hbox hb; have T := am (below_step HB.out hb); clear HB; have HB := T; clear T hg hb))
    have aa : ∀ p : Bel O, p.v.cell? ⟨gb, 0, none⟩ = some (.int .i64 I) := fun p => cell_bel ((blk_cell hbox 0).trans rfl) p
    have ab : ∀ p : Bel O, p.v.cell? ⟨gb, 1, none⟩ = some (.int .i64 s) := fun p => cell_bel ((blk_cell hbox 1).trans rfl) p
    have ac : ∀ p : Bel O, p.v.cell? ⟨gb, 2, none⟩ = some (.int .i64 J) := fun p => cell_bel ((blk_cell hbox 2).trans rfl) p
    have ae : ∀ p : Bel O, p.v.cell? ⟨gb, 3, none⟩ = some (.int .i64 z) := fun p => cell_bel ((blk_cell hbox 3).trans rfl) p
    have af : ∀ p : Bel O, p.v.cell? ⟨gb, 4, none⟩ = some (.int .i64 L) := fun p => cell_bel ((blk_cell hbox 4).trans rfl) p
    clear hbox
    refine wp_region_bel0 (by kernel_rfl) (by kernel_rfl) ?_
    rcases path6 b1 b2 b3 b4 b5 b6 with rfl | ⟨rfl, rfl⟩ | ⟨rfl, rfl, rfl⟩ | ⟨rfl, rfl, rfl, rfl⟩ | ⟨rfl, rfl, rfl, rfl, rfl⟩ | ⟨rfl, rfl, rfl, rfl, rfl, rfl⟩ | ⟨rfl, rfl, rfl, rfl, rfl, rfl⟩ <;>
    (repeat (go_big_quiet_step (first
        | with_reducible exact calls_bel0 (impl_LabelOk.calls _ _ _ X.out)
        | with_reducible exact calls_bel (impl_NodeOk.calls s J _ _ Y.out)
        | with_reducible exact calls_bel (impl_NodeOk.calls z L _ _ Z.out)
        | with_reducible exact calls_bel (impl_NodeCode.calls s J _ _ (iC s J))
        | with_reducible exact calls_bel (impl_NodeCode.calls z L _ _ (iC z L))
        | with_reducible exact calls_bel0 (impl_LabelUnder.calls s I _ _ A5.out)
        | with_reducible exact calls_bel0 (impl_LabelUnder.calls z I _ _ A6.out)))
     refine wpQuiet_nil ?_
     intro _ hw'
     obtain ⟨⟨wq, hbq⟩, hw''⟩ := hw'
     subst hw''
     go_wp2
     go_ret
     exact ⟨by first | rfl | (simp; done) | (simp [*]; done), below_step HB.out hbq⟩)
  have G := F _ _ _ _ _ _ rfl rfl rfl rfl rfl rfl
  have e : EOk I s J z L = (isL I && (nOk s J && (nOk z L && (decide (Cd s J < Cd z L) && (U s I && U z I))))) := by
    unfold EOk Cd
    cases h1 : nOk s J
    · simp
    · cases h2 : nOk z L
      · simp
      · simp
  rw [e]
  exact G

/-! ### impl_nodesOk: function 81 -/
/-- Counts, as the cells of an array. -/
def cts (m : List Int) : Array Value := (m.map fun x => Value.int .i64 x).toArray
theorem cts_get (m : List Int) (i : Nat) (h : i < m.length) : (cts m)[i]? = some (.int .i64 (rd m i)) := by
  simp [cts, rd, h]
theorem cts_set (m : List Int) (i : Nat) (x : Int) : (cts m).setIfInBounds i (.int .i64 x) = cts (m.set i x) := by
  simp [cts, List.map_set]
def impl_nodesOk.l0 : Nat → List S36 → Int → List Int → Int → Option Bool
  | 0, _, _, _, _ => none
  | k + 1, xs, last, m, i => if i < (xs.length : Int) then (if 0 ≤ i then (if Cd (rd_T36 xs i).f0 (rd_T36 xs i).f1 ≤ last then some false else (if rd m (rd_T36 xs i).f0 = 5 then some false else impl_nodesOk.l0 k xs (Cd (rd_T36 xs i).f0 (rd_T36 xs i).f1) (m.set ((rd_T36 xs i).f0).toNat (wrap64 (rd m (rd_T36 xs i).f0 + 1))) (wrap64 (i + 1)))) else none) else some true
def impl_nodesOk.f (k : Nat) (l0 : List S36) : Option Bool := impl_nodesOk.l0 k l0 (-1) [0, 0, 0, 0, 0, 0, 0, 0] 0
set_option maxHeartbeats 8000000 in
set_option maxRecDepth 100000 in
theorem impl_nodesOk.calls (k : Nat) (A0 : Option Addr) (c0 : Nat) (l0 : List S36) (r : Bool) (w : World) (aa : Kd.C k36 w A0 l0.length l0) (ab : l0.length ≤ c0) (h : impl_nodesOk.f k l0 = some r) :
    Calls Try.prog 81 #[.slice A0 l0.length c0] w fun e w' => e = .returned (.bool r) ∧ Below w.heap.size w w' := by
  have hu36 := Try.underlying36
  have hu122 := Try.underlying122
  have ai := am aa
  have ar := am ab
  clear aa ab
  have HB := am (Below.refl w.heap.size w)
  have H' := am (show impl_nodesOk.l0 k l0 (-1) [0, 0, 0, 0, 0, 0, 0, 0] 0 = some r from h)
  clear h
  go_enter Try.func81, Try.ntmps81
  go_wp2_with (first | ((with_reducible refine gate_dst (N := 3) rfl ?_); refine box_event ?hg (N := 3) ?hd (cs := cts [0, 0, 0, 0, 0, 0, 0, 0]) (t := 122) ?hr ?_; (case hd => rfl); (case hg => rfl); (case hr => first | (go_simp; done) | (go_simp; rfl)); intro gb hg w3 hbox hb; have z := am (below_step HB.out hb); have D := am hbox; have I := am ((by rw [hg]; exact (below_size (by repeat (first | (with_reducible first | exact HB.out | apply below_alloc | apply pw_below_drewN | apply below_drew1) | exact HB.out))) : w.heap.size ≤ gb)); clear HB; have HB := z; have BK := D; have GE := I; clear z D I hg hb hbox))
  go_loopg [4, 10] k (fun kq v4 aj w' => ∃ (L J : Int) (m : List Int), v4 = .int .i64 L ∧ aj = .int .i64 J ∧ Aside0 (impl_nodesOk.l0 kq l0 L m J = some r) ∧ Aside0 (-1 ≤ L ∧ m.length = 8) ∧ Aside0 (kq ≤ k) ∧ Aside0 (w'.heap[gb]? = some (.cells (cts m) 122 (0, 0))) ∧ Aside0 (Below w.heap.size w w'))
  case atStart => exact ⟨-1, 0, [0, 0, 0, 0, 0, 0, 0, 0], (by first | rfl | (simp; done) | (simp [*]; done)), (by first | rfl | (simp; done) | (simp [*]; done)), H', ⟨by omega, rfl⟩, ⟨Nat.le_refl _⟩, ⟨by (with_reducible repeat (first | refine blk_drewN ?_ _ | refine blk_drew ?_ | refine blk_alloc ?_ _)); exact BK.out⟩, ⟨by repeat (first | (with_reducible first | exact HB.out | apply below_alloc | apply pw_below_drewN | apply below_drew1 | refine below_set ?_ GE.out) | exact HB.out)⟩⟩
  case round =>
    clear H'
    obtain ⟨L, J, m, rfl, rfl, HA, HM, ac, BK, HB⟩ := hrel
    cases gk with
    | zero => exact absurd HA.out (by simp [impl_nodesOk.l0])
    | succ k1 =>
      have H := HA.out
      clear HA
      simp only [impl_nodesOk.l0] at H
      by_cases O : J < (l0.length : Int)
      · rw [if_pos O] at H
        have ak : decide (J < (l0.length : Int)) = true := decide_eq_true O
        by_cases c2 : 0 ≤ J
        · rw [if_pos c2] at H
          have p0 := c2
          have q0 := O
          obtain ⟨ad, ea, Y, Z⟩ := at_T36 ai.out J p0 q0
          cases ea
          replace Y := (HB.out.cell (World.block_lt_of_cell? w _ Y)).trans Y
          replace Z := (HB.out.cell (World.block_lt_of_cell? w _ Z)).trans Z
          replace p0 := eq_true p0
          replace q0 := eq_true q0
          generalize (rd_T36 l0 J).f0 = f0 at H Y Z
          generalize (rd_T36 l0 J).f1 = f1 at H Y Z
          clear O c2
          go_wp2_with (first | ((with_reducible refine gate_dst (N := 6) rfl ?_); refine box_event ?hg (N := 6) ?hd (cs := #[.int .i64 0, .int .i64 0]) (t := 36) ?hr ?_; (case hd => rfl); (case hg => rfl); (case hr => first | (go_simp; done) | (go_simp; rfl)); intro gn hg w5 hbox hb; have z := am (blk_below (g := gb) (by (with_reducible repeat (first | refine blk_drewN ?_ _ | refine blk_drew ?_ | refine blk_alloc ?_ _)); exact BK.out) hb); have D := am (below_step (by repeat (first | (with_reducible first | exact HB.out | apply below_alloc | apply pw_below_drewN | apply below_drew1 | refine below_set ?_ GE.out) | exact HB.out)) hb); have I := am hbox; have ae := am ((by rw [hg]; exact (below_size (by repeat (first | (with_reducible first | exact HB.out | apply below_alloc | apply pw_below_drewN | apply below_drew1 | refine below_set ?_ GE.out) | exact HB.out))) : w.heap.size ≤ gn)); have af := am ((by rw [hg]; exact Nat.ne_of_lt (blk_lt (g := gb) (by (with_reducible repeat (first | refine blk_drewN ?_ _ | refine blk_drew ?_ | refine blk_alloc ?_ _)); exact BK.out)) : gb ≠ gn)); clear BK HB; have BK := z; have HB := D; have BN := I; have GN := ae; have NE := af; clear z D I ae af; clear hb hbox hg; have ag : w5.cell? ⟨gn, 0, none⟩ = some (.int .i64 0) := (blk_cell BN.out 0).trans rfl; have ah : w5.cell? ⟨gn, 1, none⟩ = some (.int .i64 0) := (blk_cell BN.out 1).trans rfl; have al := blk_frozen BN.out 0; have an := blk_frozen BN.out 1))
          have z := am (blk_far (blk_far BK.out (p := ⟨gn, 0, none⟩) NE.out (.int .i64 f0)) (p := ⟨gn, 1, none⟩) NE.out (.int .i64 f1))
          have D := am (blk_put (cs' := #[.int .i64 f0, .int .i64 f1]) (blk_put (cs' := #[.int .i64 f0, .int .i64 0]) BN.out 0 (.int .i64 f0) rfl) 1 (.int .i64 f1) rfl)
          have I := am (below_set (j := 1) (v := .int .i64 f1) (below_set (j := 0) (v := .int .i64 f0) HB.out GN.out) GN.out)
          clear BK BN HB ag ah al an
          have BK := z
          have BN := D
          have HB := I
          clear z D I
          generalize (w5.setCell ⟨gn, 0, none⟩ (.int .i64 f0)).setCell ⟨gn, 1, none⟩ (.int .i64 f1) = w6 at BK BN HB ⊢
          refine (impl_NodeCode.calls _ _ _ _ (iC _ _)).mono ?_
          rintro e w7 ⟨rfl, hb⟩
          have z := am (blk_below BK.out hb)
          have D := am (blk_below BN.out hb)
          have I := am (below_step HB.out hb)
          clear BK BN HB hb
          have BK := z
          have BN := D
          have HB := I
          clear z D I
          have ag : w7.cell? ⟨gn, 0, none⟩ = some (.int .i64 f0) := (blk_cell BN.out 0).trans rfl
          have ah : w7.cell? ⟨gn, 1, none⟩ = some (.int .i64 f1) := (blk_cell BN.out 1).trans rfl
          by_cases T : Cd f0 f1 ≤ L
          · rw [if_pos T] at H
            have ao : decide (Cd f0 f1 ≤ L) = true := decide_eq_true T
            clear T
            obtain rfl := Option.some.inj H
            go_wp2
            go_ret
            exact ⟨by first | rfl | (simp; done) | (simp [*]; done), by repeat (first | (with_reducible first | exact HB.out | apply below_alloc | apply pw_below_drewN | apply below_drew1) | exact HB.out)⟩
          · rw [if_neg T] at H
            have ao : decide (Cd f0 f1 ≤ L) = false := decide_eq_false T
            have hok := Cd_ok (a := f0) (b := f1) (by have := HM.out.1; omega)
            obtain ⟨j, rfl⟩ := Int.eq_ofNat_of_zero_le hok.2.1
            have au : j < 8 := by omega
            have hjm : j < m.length := by have := HM.out.2; omega
            have hcm : w7.cell? ⟨gb, j, none⟩ = some (.int .i64 (rd m j)) := (blk_cell BK.out j).trans (cts_get m j hjm)
            have hfm := blk_frozen BK.out j
            have hlo : (0 ≤ (j : Int)) = True := eq_true (by omega)
            have hhi : ((j : Int) < 8) = True := eq_true (by omega)
            have ap : -1 ≤ Cd (j : Int) f1 := by rw [hok.1]; omega
            clear T hok
            by_cases X : rd m (j : Int) = 5
            · rw [if_pos X] at H
              have aq : (rd m (j : Int) == 5) = true := beq_iff_eq.mpr X
              clear X
              obtain rfl := Option.some.inj H
              go_wp2
              go_ret
              exact ⟨by first | rfl | (simp; done) | (simp [*]; done), by repeat (first | (with_reducible first | exact HB.out | apply below_alloc | apply pw_below_drewN | apply below_drew1) | exact HB.out)⟩
            · rw [if_neg X] at H
              have aq : (rd m (j : Int) == 5) = false := beq_eq_false_iff_ne.mpr X
              clear X
              have H' := am H
              clear H
              go_wp2
              go_roundg k1
              case measure => have := ac.out; omega
              case rel => exact ⟨Cd (j : Int) f1, wrap64 (J + 1), m.set j (wrap64 (rd m (j : Int) + 1)), (by first | rfl | (simp; done) | (simp [*]; done)), (by first | rfl | (simp; done) | (simp [*]; done)), ⟨by simpa using H'.out⟩, ⟨ap, by simpa using HM.out.2⟩, ⟨by have := ac.out; omega⟩, ⟨by refine blk_put ?_ j _ (cts_set m j _); exact BK.out⟩, ⟨by refine below_set ?_ GE.out; exact HB.out⟩⟩
        · rw [if_neg c2] at H; cases H
      · rw [if_neg O] at H
        have ak : decide (J < (l0.length : Int)) = false := decide_eq_false O
        clear O
        obtain rfl := Option.some.inj H
        go_wp2
        go_ret
        exact ⟨by first | rfl | (simp; done) | (simp [*]; done), by repeat (first | (with_reducible first | exact HB.out | apply below_alloc | apply pw_below_drewN | apply below_drew1 | refine below_set ?_ GE.out) | exact HB.out)⟩

/-! ### cmp_isNaN_int: function 160 -/
def cmp_isNaN_int.f (s : Int) : Option (Bool) := some (s != s)
theorem cmp_isNaN_int.calls (s : Int) (r : Bool) (w : World) (h : cmp_isNaN_int.f s = some r) :
  Calls Try.prog 160 #[.int .i64 s] w fun e w' => e = .returned (.bool r) ∧ Drawn0 w w' := by
 have H := h; unfold cmp_isNaN_int.f at H
 clear h
 obtain rfl := Option.some.inj H
 go_enter Try.func160, Try.ntmps160
 go_wp2
 go_ret
 exact ⟨eqs, drs⟩

/-! ### cmp_Compare_int: function 138 -/
def cmp_Compare_int.f (s : Int) (z : Int) : Option (Int) := (cmp_isNaN_int.f s).bind fun I => ((cmp_isNaN_int.f z).bind fun D => (if I = true then (if D = true then (some 0) else (some (-1))) else (if D = true then (some 1) else (if s < z then (some (-1)) else (if s > z then (some 1) else (some 0))))))
theorem cmp_Compare_int.calls (s : Int) (z : Int) (r : Int) (w : World) (h : cmp_Compare_int.f s z = some r) :
  Calls Try.prog 138 #[.int .i64 s, .int .i64 z] w fun e w' => e = .returned (.int .i64 r) ∧ Drawn0 w w' := by
 have H := h; unfold cmp_Compare_int.f at H
 clear h
 replace H := Option.bind_eq_some_iff.mp H
 obtain ⟨ac, aa, H⟩ := H
 try dsimp -simprocs only at H
 have I := am aa
 clear aa
 replace H := Option.bind_eq_some_iff.mp H
 obtain ⟨T, ab, H⟩ := H
 try dsimp -simprocs only at H
 have J := am ab
 clear ab
 by_cases X : ac = true
 ·subst X
  replace H : (if T = true then (some 0) else (some (-1))) = some r := by rw [if_pos rfl] at H; exact H
  by_cases Y : T = true
  ·subst Y
   replace H : (some 0) = some r := by rw [if_pos rfl] at H; exact H
   obtain rfl := Option.some.inj H
   go_enter Try.func138, Try.ntmps138
   go_wp2_with (first | ((with_reducible refine gc 160 rfl ?_); refine gl 8 Try.func160 #[.int .i64 s] ?_; (with_reducible refine (cmp_isNaN_int.calls s true _ I.out).mono ?_); rintro e w' ⟨rfl, ⟨nd, rfl⟩⟩; refine ⟨_, rfl, ?_⟩) | ((with_reducible refine gc 160 rfl ?_); refine gl 10 Try.func160 #[.int .i64 z] ?_; (with_reducible refine (cmp_isNaN_int.calls z true _ J.out).mono ?_); rintro e w' ⟨rfl, ⟨nd, rfl⟩⟩; refine ⟨_, rfl, ?_⟩))
   go_ret
   exact ⟨eqs, drs⟩
  ·replace Y := Bool.eq_false_iff.mpr Y
   subst Y
   have H1 : (some (-1)) = some r := by rw [if_neg (show ¬ (false = true) by decide)] at H; exact H
   clear H
   have H := H1
   clear H1
   obtain rfl := Option.some.inj H
   go_enter Try.func138, Try.ntmps138
   go_wp2_with (first | ((with_reducible refine gc 160 rfl ?_); refine gl 8 Try.func160 #[.int .i64 s] ?_; (with_reducible refine (cmp_isNaN_int.calls s true _ I.out).mono ?_); rintro e w' ⟨rfl, ⟨nd, rfl⟩⟩; refine ⟨_, rfl, ?_⟩) | ((with_reducible refine gc 160 rfl ?_); refine gl 10 Try.func160 #[.int .i64 z] ?_; (with_reducible refine (cmp_isNaN_int.calls z false _ J.out).mono ?_); rintro e w' ⟨rfl, ⟨nd, rfl⟩⟩; refine ⟨_, rfl, ?_⟩))
   go_ret
   exact ⟨eqs, drs⟩
 ·replace X := Bool.eq_false_iff.mpr X
  subst X
  have H1 : (if T = true then (some 1) else (if s < z then (some (-1)) else (if s > z then (some 1) else (some 0)))) = some r := by rw [if_neg (show ¬ (false = true) by decide)] at H; exact H
  clear H
  have H := H1
  clear H1
  by_cases Z : T = true
  ·subst Z
   replace H : (some 1) = some r := by rw [if_pos rfl] at H; exact H
   obtain rfl := Option.some.inj H
   go_enter Try.func138, Try.ntmps138
   go_wp2_with (first | ((with_reducible refine gc 160 rfl ?_); refine gl 8 Try.func160 #[.int .i64 s] ?_; (with_reducible refine (cmp_isNaN_int.calls s false _ I.out).mono ?_); rintro e w' ⟨rfl, ⟨nd, rfl⟩⟩; refine ⟨_, rfl, ?_⟩) | ((with_reducible refine gc 160 rfl ?_); refine gl 10 Try.func160 #[.int .i64 z] ?_; (with_reducible refine (cmp_isNaN_int.calls z true _ J.out).mono ?_); rintro e w' ⟨rfl, ⟨nd, rfl⟩⟩; refine ⟨_, rfl, ?_⟩))
   go_ret
   exact ⟨eqs, drs⟩
  ·replace Z := Bool.eq_false_iff.mpr Z
   subst Z
   have H1 : (if s < z then (some (-1)) else (if s > z then (some 1) else (some 0))) = some r := by rw [if_neg (show ¬ (false = true) by decide)] at H; exact H
   clear H
   have H := H1
   clear H1
   by_cases L : s < z
   ·rw [if_pos L] at H
    have ae : decide (s < z) = true := decide_eq_true L
    clear L
    obtain rfl := Option.some.inj H
    go_enter Try.func138, Try.ntmps138
    go_wp2_with (first | ((with_reducible refine gc 160 rfl ?_); refine gl 8 Try.func160 #[.int .i64 s] ?_; (with_reducible refine (cmp_isNaN_int.calls s false _ I.out).mono ?_); rintro e w' ⟨rfl, ⟨nd, rfl⟩⟩; refine ⟨_, rfl, ?_⟩) | ((with_reducible refine gc 160 rfl ?_); refine gl 10 Try.func160 #[.int .i64 z] ?_; (with_reducible refine (cmp_isNaN_int.calls z false _ J.out).mono ?_); rintro e w' ⟨rfl, ⟨nd, rfl⟩⟩; refine ⟨_, rfl, ?_⟩))
    go_ret
    exact ⟨eqs, drs⟩
   ·rw [if_neg L] at H
    have ae : decide (s < z) = false := decide_eq_false L
    clear L
    by_cases O : s > z
    ·rw [if_pos O] at H
     have af : decide (z < s) = true := decide_eq_true O
     clear O
     obtain rfl := Option.some.inj H
     go_enter Try.func138, Try.ntmps138
     go_wp2_with (first | ((with_reducible refine gc 160 rfl ?_); refine gl 8 Try.func160 #[.int .i64 s] ?_; (with_reducible refine (cmp_isNaN_int.calls s false _ I.out).mono ?_); rintro e w' ⟨rfl, ⟨nd, rfl⟩⟩; refine ⟨_, rfl, ?_⟩) | ((with_reducible refine gc 160 rfl ?_); refine gl 10 Try.func160 #[.int .i64 z] ?_; (with_reducible refine (cmp_isNaN_int.calls z false _ J.out).mono ?_); rintro e w' ⟨rfl, ⟨nd, rfl⟩⟩; refine ⟨_, rfl, ?_⟩))
     go_ret
     exact ⟨eqs, drs⟩
    ·rw [if_neg O] at H
     have af : decide (z < s) = false := decide_eq_false O
     clear O
     obtain rfl := Option.some.inj H
     go_enter Try.func138, Try.ntmps138
     go_wp2_with (first | ((with_reducible refine gc 160 rfl ?_); refine gl 8 Try.func160 #[.int .i64 s] ?_; (with_reducible refine (cmp_isNaN_int.calls s false _ I.out).mono ?_); rintro e w' ⟨rfl, ⟨nd, rfl⟩⟩; refine ⟨_, rfl, ?_⟩) | ((with_reducible refine gc 160 rfl ?_); refine gl 10 Try.func160 #[.int .i64 z] ?_; (with_reducible refine (cmp_isNaN_int.calls z false _ J.out).mono ?_); rintro e w' ⟨rfl, ⟨nd, rfl⟩⟩; refine ⟨_, rfl, ?_⟩))
     go_ret
     exact ⟨eqs, drs⟩

/-! ### impl_nodeOrder: function 105 -/
def impl_nodeOrder.f (s : Int) (z : Int) (D : Int) (I : Int) : Option (Int) := (impl_NodeCode.f s z).bind fun J => ((impl_NodeCode.f D I).bind fun L => ((cmp_Compare_int.f J L).bind fun O => (some O)))
theorem impl_nodeOrder.calls (I : Int) (J : Int) (L : Int) (O : Int) (r : Int) (w : World) (h : impl_nodeOrder.f I J L O = some r) :
  Calls Try.prog 105 #[.agg #[.int .i64 I, .int .i64 J], .agg #[.int .i64 L, .int .i64 O]] w fun e w' => e = .returned (.int .i64 r) ∧ Below w.heap.size w w' := by
 have hu36 := Try.underlying36
 have HB := am (Below.refl w.heap.size w)
 have H := h; unfold impl_nodeOrder.f at H
 clear h
 replace H := Option.bind_eq_some_iff.mp H
 obtain ⟨X, Z, H⟩ := H
 try dsimp -simprocs only at H
 have A3 := am Z
 clear Z
 replace H := Option.bind_eq_some_iff.mp H
 obtain ⟨Y, aa, H⟩ := H
 try dsimp -simprocs only at H
 have A4 := am aa
 clear aa
 replace H := Option.bind_eq_some_iff.mp H
 obtain ⟨af, ab, H⟩ := H
 try dsimp -simprocs only at H
 have A5 := am ab
 clear ab
 obtain rfl := Option.some.inj H
 go_enter Try.func105, Try.ntmps105
 try go_wp2_with (first | ((with_reducible refine gd 2 rfl ?_); refine bx 2 (cs := #[.int .i64 I, .int .i64 J]) (t := 36) ?_; intro ac hg w6 hbox hb; have z := am hbox; have ak := gwb HB hg; replace HB := hs HB hb; clear hb hbox hg) | ((with_reducible refine gd 3 rfl ?_); refine bx 3 (cs := #[.int .i64 L, .int .i64 O]) (t := 36) ?_; intro ae hg w7 hbox hb; have D := am hbox; have al := gwb HB hg; replace HB := hs HB hb; have an := nq z hg; have ao := nq' z hg; replace z := bb z hb rfl; clear hb hbox hg))
 replace z := bd z
 replace D := bd D
 replace HB := hd HB
 refine wp_region_bel (by kernel_rfl) (by kernel_rfl) ?_
 generalize w7.drew = T at z D HB ⊢
 have hbp_ := fun (p_ : Bel T) => below_step HB.out p_.h
 have ag : ∀ p_ : Bel T, p_.v.cell? ⟨ac, 0, none⟩ = some (.int .i64 I) := fun p_ => cell_bel (cx z 0) p_
 have ah : ∀ p_ : Bel T, p_.v.cell? ⟨ac, 1, none⟩ = some (.int .i64 J) := fun p_ => cell_bel (cx z 1) p_
 have ai : ∀ p_ : Bel T, p_.v.cell? ⟨ae, 0, none⟩ = some (.int .i64 L) := fun p_ => cell_bel (cx D 0) p_
 have aj : ∀ p_ : Bel T, p_.v.cell? ⟨ae, 1, none⟩ = some (.int .i64 O) := fun p_ => cell_bel (cx D 1) p_
 repeat (go_big_quiet_step (first
  | (with_reducible show Calls Try.prog 116 #[.agg #[.int .i64 I, .int .i64 J]] _ _; with_reducible exact calls_bel (impl_NodeCode.calls I J X _ A3.out))
  | (with_reducible show Calls Try.prog 116 #[.agg #[.int .i64 L, .int .i64 O]] _ _; with_reducible exact calls_bel (impl_NodeCode.calls L O Y _ A4.out))
  | (with_reducible show Calls Try.prog 138 #[.int .i64 X, .int .i64 Y] _ _; with_reducible exact calls_bel0 (cmp_Compare_int.calls X Y af _ A5.out))))
 refine wpQuiet_nil ?_
 intro ap hw'
 obtain ⟨⟨wq_, hb⟩, hw''⟩ := hw'
 subst hw''
 clear hbp_ ag ah ai aj
 replace z := bb z hb rfl
 replace D := bb D hb rfl
 replace HB := hs HB hb
 (try clear hb)
 (try clear hb2)
 (try clear hk)
 (try clear hi)
 try go_wp2
 go_ret
 exact ⟨eqr, bs HB.out⟩

/-! ### cmp_Or_int: function 142 -/
def cmp_Or_int.l0 : Nat → Int → List Int → Int → Int → Option (Int)
 | 0, _, _, _, _ => none
 | k + 1, D, z, I, s => if s < I then (if 0 ≤ s then (if s < (z.length : Int) then (if (rd z s) = D then (cmp_Or_int.l0 k D z I (wrap64 (s + 1))) else (some (rd z s))) else (none)) else (none)) else (some D)
def cmp_Or_int.f (k : Nat) (l0 : List Int) : Option (Int) := cmp_Or_int.l0 k 0 l0 (l0.length : Int) 0
theorem cmp_Or_int.calls (k : Nat) (T : Option Addr) (X : Nat) (l0 : List Int) (r : Int) (w : World) (Y : Kd.C (Kd.int .i64) w T l0.length l0) (aa : l0.length ≤ X) (h : cmp_Or_int.f k l0 = some r) :
  Calls Try.prog 142 #[.slice T l0.length X] w fun e w' => e = .returned (.int .i64 r) ∧ Drawn0 w w' := by
 have ab := am Y
 have aj := am aa
 clear Y aa
 have H := h; unfold cmp_Or_int.f at H
 clear h
 have H' := am H
 clear H
 go_enter Try.func142, Try.ntmps142
 go_wp2
 go_loopg [8] k (fun kq v8 w' => ∃ (s : Int), v8 = .int .i64 s ∧ Aside0 (cmp_Or_int.l0 kq 0 l0 (l0.length : Int) s = some r) ∧ Aside0 (kq ≤ k) ∧ Drawn0 w w')
 case atStart => exact ⟨(0), eqs, H', ⟨Nat.le_refl _⟩, drs⟩
 case round =>
  clear H'
  try clear c1
  obtain ⟨s, rfl, HA, ac, ⟨m1, rfl⟩⟩ := hrel
  cases gk with
  | zero => exact absurd HA.out (by simp [cmp_Or_int.l0])
  | succ k1 =>
   have H := HA.out
   clear HA
   simp only [cmp_Or_int.l0] at H
   by_cases c2 : s < (l0.length : Int)
   ·rw [if_pos c2] at H
    have ae : decide (s < (l0.length : Int)) = true := decide_eq_true c2
    clear c2
    by_cases J : 0 ≤ s
    ·rw [if_pos J] at H
     have ak : decide (0 ≤ s) = true := decide_eq_true J
     clear J
     by_cases L : s < (l0.length : Int)
     ·rw [if_pos L] at H
      have al : decide (s < (l0.length : Int)) = true := decide_eq_true L
      clear L
      by_cases z : (rd l0 s) = 0
      ·rw [if_pos z] at H
       have af : ((rd l0 s) == 0) = true := beq_iff_eq.mpr z
       have ag : ((rd l0 s) != 0) = false := bne_eq_false_iff_eq.mpr z
       clear z
       have H' := am H
       clear H
       have D : 0 ≤ (s : Int) := oda
       have I : s < (l0.length : Int) := oda
       obtain ⟨ah, O, ai⟩ := Kd.at_int ab.out s D I
       cases O
       replace D := eq_true D
       replace I := eq_true I
       go_wp2
       go_roundg k1
       case measure => have := ac.out; omega
       case rel => exact ⟨(wrap64 (s + 1)), eqs, H', ⟨by have := ac.out; omega⟩, drs⟩
      ·rw [if_neg z] at H
       have af : ((rd l0 s) == 0) = false := beq_eq_false_iff_ne.mpr z
       have ag : ((rd l0 s) != 0) = true := bne_iff_ne.mpr z
       obtain rfl := Option.some.inj H
       have D : 0 ≤ (s : Int) := oda
       have I : s < (l0.length : Int) := oda
       obtain ⟨ah, O, ai⟩ := Kd.at_int ab.out s D I
       cases O
       replace D := eq_true D
       replace I := eq_true I
       go_wp2
       go_ret
       exact ⟨eqs, drs⟩
     ·rw [if_neg L] at H
      exact absurd H (by simp)
    ·rw [if_neg J] at H
     exact absurd H (by simp)
   ·rw [if_neg c2] at H
    have ae : decide (s < (l0.length : Int)) = false := decide_eq_false c2
    clear c2
    obtain rfl := Option.some.inj H
    go_wp2
    go_ret
    exact ⟨eqs, drs⟩

/-! ### impl_edgeOrder: function 117 -/
def impl_edgeOrder.f (k : Nat) (s : Int) (z : Int) (D : Int) (I : Int) (J : Int) (L : Int) (O : Int) (T : Int) (X : Int) (Y : Int) : Option (Int) := (cmp_Compare_int.f s L).bind fun Z => ((impl_nodeOrder.f z D O T).bind fun aa => ((impl_nodeOrder.f I J X Y).bind fun ab => ((cmp_Or_int.f k (([Z, aa, ab] : List Int))).bind fun ac => (some ac))))
def impl_edgeOrder.T1 : Bool × List (List Nat × List Nat) := (true, [([], []), ([0], [0]), ([], []), ([2], [2]), ([1, 3], [1, 3]), ([], []), ([5], [5]), ([], []), ([7], [7]), ([6, 8, 4], [6, 8]), ([], []), ([10], [10]), ([], []), ([12], [12]), ([11, 13, 9], [11, 13]), ([4, 9, 14], [4, 9, 14]), ([15, 14], [15]), ([16, 16, 0, 1, 2, 3, 4, 5, 6, 7, 8, 9, 10, 11, 12, 13, 14, 15, 16], [16])])
def impl_edgeOrder.B1 : List Nat := [0, 1, 0, 4, 15, 0, 32, 0, 128, 511, 0, 1024, 0, 4096, 16383, 32767, 65535, 131071]
theorem impl_edgeOrder.tab1 : rtab .any (opsOf Try.f117 1) = impl_edgeOrder.T1 := by kernel_rfl
theorem impl_edgeOrder.bits1 : waitsOk impl_edgeOrder.T1.2 impl_edgeOrder.B1 = true := by kernel_rfl
theorem impl_edgeOrder.calls (k : Nat) (I : Int) (J : Int) (L : Int) (O : Int) (T : Int) (X : Int) (Y : Int) (Z : Int) (aa : Int) (ab : Int) (r : Int) (w : World) (h : impl_edgeOrder.f k I J L O T X Y Z aa ab = some r) :
  Calls Try.prog 117 #[.agg #[.int .i64 I, .int .i64 J, .int .i64 L, .int .i64 O, .int .i64 T], .agg #[.int .i64 X, .int .i64 Y, .int .i64 Z, .int .i64 aa, .int .i64 ab]] w fun e w' => e = .returned (.int .i64 r) ∧ Below w.heap.size w w' := by
 have hu56 := Try.underlying56
 have hu36 := Try.underlying36
 have HB := am (Below.refl w.heap.size w)
 have H := h; unfold impl_edgeOrder.f at H
 clear h
 replace H := Option.bind_eq_some_iff.mp H
 obtain ⟨ac, ao, H⟩ := H
 try dsimp -simprocs only at H
 have A3 := am ao
 clear ao
 replace H := Option.bind_eq_some_iff.mp H
 obtain ⟨ae, ap, H⟩ := H
 try dsimp -simprocs only at H
 have A4 := am ap
 clear ap
 replace H := Option.bind_eq_some_iff.mp H
 obtain ⟨af, aq, H⟩ := H
 try dsimp -simprocs only at H
 have A5 := am aq
 clear aq
 obtain ⟨aj, ak⟩ : ∃ y_ : List Int, y_ = (([ac, ae, af] : List Int)) := ⟨_, rfl⟩
 replace H : ((cmp_Or_int.f k aj).bind fun al => (some al)) = some r := by first | (rw [ak]; exact H) | exact H
 have ar := am ak
 clear ak
 replace H := Option.bind_eq_some_iff.mp H
 obtain ⟨al, au, H⟩ := H
 try dsimp -simprocs only at H
 have A6 := am au
 clear au
 obtain rfl := Option.some.inj H
 go_enter Try.func117, Try.ntmps117
 try go_wp2_with (first | ((with_reducible refine gd 2 rfl ?_); refine bx 2 (cs := #[.int .i64 I, .int .i64 J, .int .i64 L, .int .i64 O, .int .i64 T]) (t := 56) ?_; intro ag hg w7 hbox hb; have z := am hbox; have aF := gwb HB hg; replace HB := hs HB hb; clear hb hbox hg) | ((with_reducible refine gd 3 rfl ?_); refine bx 3 (cs := #[.int .i64 X, .int .i64 Y, .int .i64 Z, .int .i64 aa, .int .i64 ab]) (t := 56) ?_; intro ah hg w8 hbox hb; have D := am hbox; have aG := gwb HB hg; replace HB := hs HB hb; have aH := nq z hg; have aI := nq' z hg; replace z := bb z hb rfl; clear hb hbox hg))
 replace z := bd z
 replace D := bd D
 replace HB := hd HB
 refine sta 18 (fun w' => w'.cell? ⟨ag, 0, none⟩ = some (.int .i64 I) ∧ w'.cell? ⟨ag, 1, none⟩ = some (.int .i64 J) ∧ w'.cell? ⟨ag, 2, none⟩ = some (.int .i64 L) ∧ w'.cell? ⟨ag, 3, none⟩ = some (.int .i64 O) ∧ w'.cell? ⟨ag, 4, none⟩ = some (.int .i64 T) ∧ w'.cell? ⟨ah, 0, none⟩ = some (.int .i64 X) ∧ w'.cell? ⟨ah, 1, none⟩ = some (.int .i64 Y) ∧ w'.cell? ⟨ah, 2, none⟩ = some (.int .i64 Z) ∧ w'.cell? ⟨ah, 3, none⟩ = some (.int .i64 aa) ∧ w'.cell? ⟨ah, 4, none⟩ = some (.int .i64 ab)) [] ⟨cx z 0, cx z 1, cx z 2, cx z 3, cx z 4, cx D 0, cx D 1, cx D 2, cx D 3, cx D 4⟩ (fun hHeld => ?_); refine with_tabW impl_edgeOrder.tab1 impl_edgeOrder.bits1 (fun HT_ HW_ => ?_)
 generalize w8.drew = w9 at z D HB hHeld ⊢
 refine pu 0 5 ?_
 refine pu 2 7 ?_
 refine pu 5 10 ?_
 refine pu 7 12 ?_
 refine pu 10 15 ?_
 refine pu 12 17 ?_
 refine tk 1 6 ?_
 refine tk 3 8 ?_
 refine tk 6 11 ?_
 refine tk 8 13 ?_
 refine tk 11 16 ?_
 refine tk 13 18 ?_
 refine on 4 9 (fun K hK => ?_)
 refine gs Try.func138 #[.int .i64 I, .int .i64 X] ?_
 with_reducible refine (cmp_Compare_int.calls I X ac _ A3.out).mono ?_
 rintro e w' ⟨rfl, ⟨nd, rfl⟩⟩
 refine ⟨_, rfl, ?_⟩
 refine hK.out _ _ ⟨cx z 0, cx z 1, cx z 2, cx z 3, cx z 4, cx D 0, cx D 1, cx D 2, cx D 3, cx D 4⟩ (fun hHeld => ?_)
 clear hK K
 refine nrm 9 ?_
 refine on 9 14 (fun K hK => ?_)
 refine gs Try.func105 #[.agg #[.int .i64 J, .int .i64 L], .agg #[.int .i64 Y, .int .i64 Z]] ?_
 with_reducible refine (impl_nodeOrder.calls J L Y Z ae _ A4.out).mono ?_
 rintro e aJ ⟨rfl, hb⟩
 refine ⟨_, rfl, ?_⟩
 replace z := bb z hb rfl
 replace D := bb D hb rfl
 replace HB := hs HB hb
 (try clear hb)
 (try clear hb2)
 (try clear hk)
 (try clear hi)
 refine hK.out _ _ ⟨cx z 0, cx z 1, cx z 2, cx z 3, cx z 4, cx D 0, cx D 1, cx D 2, cx D 3, cx D 4⟩ (fun hHeld => ?_)
 clear hK K
 refine nrm 14 ?_
 refine on 14 19 (fun K hK => ?_)
 refine gs Try.func105 #[.agg #[.int .i64 O, .int .i64 T], .agg #[.int .i64 aa, .int .i64 ab]] ?_
 with_reducible refine (impl_nodeOrder.calls O T aa ab af _ A5.out).mono ?_
 rintro e aK ⟨rfl, hb⟩
 refine ⟨_, rfl, ?_⟩
 replace z := bb z hb rfl
 replace D := bb D hb rfl
 replace HB := hs HB hb
 (try clear hb)
 (try clear hb2)
 (try clear hk)
 (try clear hi)
 refine hK.out _ _ ⟨cx z 0, cx z 1, cx z 2, cx z 3, cx z 4, cx D 0, cx D 1, cx D 2, cx D 3, cx D 4⟩ (fun hHeld => ?_)
 clear hK K
 refine nrm 19 ?_
 refine on 15 20 (fun K hK => ?_)
 refine Kd.R_lit_step (Kd.int .i64) _ 3 ?hg (N := 20) ?hd (xs := ([ac, ae, af] : List Int)) (inner := [.int .i64 ac, .int .i64 ae, .int .i64 af]) (ok := fun _ => True) (okp := fun _ => True) ?hr ?hp (fun _ hk => hk) trivial (Below.refl _ _) (Nat.le_refl _) (by simp) ?_; (case hd => rfl); (case hg => rfl); (case hr => first | (go_simp; done) | (go_simp; rfl)); (case hp => exact (Reps.one (show Kd.M (Kd.int .i64) _ _ _ ac [.int .i64 ac] from rfl) (Reps.one (show Kd.M (Kd.int .i64) _ _ _ ae [.int .i64 ae] from rfl) (Reps.one (show Kd.M (Kd.int .i64) _ _ _ af [.int .i64 af] from rfl) (Reps.none _ _)))))
 intro aL aM ai hb hg_ hnew_
 clear hg_ hnew_
 (first | rw [← ar.out] at ai | (simp only [Int.reduceToNat] at ai; rw [← ar.out] at ai))
 have an := am (Kd.R_lower ai (below_size (bs HB.out)))
 replace z := bb z hb rfl
 replace D := bb D hb rfl
 replace HB := hs HB hb
 clear hb ai
 obtain ⟨ay, az, av⟩ := Kd.R_slice an.out
 (first | subst av | (injection av with aw aA ax; have aB := aw.symm; have aC := ax.symm; clear aw aA ax; subst aB; subst aC))
 refine hK.out _ _ ⟨cx z 0, cx z 1, cx z 2, cx z 3, cx z 4, cx D 0, cx D 1, cx D 2, cx D 3, cx D 4⟩ (fun hHeld => ?_)
 clear hK K
 refine nrm 20 ?_
 refine on 16 21 (fun K hK => ?_)
 refine gs Try.func142 #[.slice ay aj.length az] ?_
 with_reducible refine (cmp_Or_int.calls k _ _ aj al _ ?aD ?aE A6.out).mono ?_
 (case aD => exact cr an)
 (case aE => exact cc an)
 rintro e w' ⟨rfl, ⟨nd, rfl⟩⟩
 refine ⟨_, rfl, ?_⟩
 refine hK.out _ _ ⟨cx z 0, cx z 1, cx z 2, cx z 3, cx z 4, cx D 0, cx D 1, cx D 2, cx D 3, cx D 4⟩ (fun hHeld => ?_)
 clear hK K
 refine nrm 21 ?_
 refine pu 17 4 ?_
 refine dn ?_
 try go_wp2
 go_ret
 exact ⟨eqr, bs HB.out⟩

/-! ### impl_Node_110: function 110 -/
/-- The sign of a comparison of two nodes. -/
def oN (a b c d : Int) : Int := if Cd a b < Cd c d then -1 else if Cd a b > Cd c d then 1 else 0
theorem iO (a b c d : Int) : impl_nodeOrder.f a b c d = some (oN a b c d) := by
  unfold impl_nodeOrder.f cmp_Compare_int.f cmp_isNaN_int.f oN
  simp only [iC, Option.bind_some, bne_self_eq_false, Bool.false_eq_true, if_false]
  split
  · rfl
  · split <;> rfl
theorem half_u {x y : Int} (h : 0 ≤ x ∧ 0 ≤ y ∧ x ≤ 9223372036854775807 ∧ y ≤ 9223372036854775807) : wrap64 (IntKind.u64.wrap (wrap64 (x + y)) / 2) = (x + y) / 2 := by
  have e : IntKind.u64.wrap (wrap64 (x + y)) = x + y := by
    simp only [IntKind.wrap, IntKind.signed, IntKind.bits, wrap64]
    simp
    omega
  rw [e]; unfold wrap64; omega
def impl_bsf.l0 : Nat → List S36 → Int → Int → Int → Int → Option (Int × Bool)
  | 0, _, _, _, _, _ => none
  | k + 1, xs, a, b, i, j => if i < j then (if oN (rd_T36 xs ((i + j) / 2)).f0 (rd_T36 xs ((i + j) / 2)).f1 a b < 0 then impl_bsf.l0 k xs a b ((i + j) / 2 + 1) j else impl_bsf.l0 k xs a b i ((i + j) / 2)) else
    some (i, if i < (xs.length : Int) then oN (rd_T36 xs i).f0 (rd_T36 xs i).f1 a b == 0 else false)
def impl_bsf.f (k : Nat) (xs : List S36) (a b : Int) : Option (Int × Bool) := impl_bsf.l0 k xs a b 0 xs.length
set_option maxHeartbeats 8000000 in
set_option maxRecDepth 100000 in
theorem impl_bsf.calls (k : Nat) (A0 : Option Addr) (c0 : Nat) (l0 : List S36) (D I : Int) (r1 : Int) (r2 : Bool) (w : World) (ac : Kd.C k36 w A0 l0.length l0) (ak : l0.length ≤ c0) (h : impl_bsf.f k l0 D I = some (r1, r2)) :
    Calls Try.prog 110 #[.slice A0 l0.length c0, .agg #[.int .i64 D, .int .i64 I], .func (.func 105) #[] #[]] w fun e w' => e = .returned (.tuple #[.int .i64 r1, .bool r2]) ∧ Below w.heap.size w w' := by
  have hu36 := Try.underlying36
  have al := am ac
  have av := am ak
  have an := am ac.2.1
  clear ac ak
  have HB := am (Below.refl w.heap.size w)
  have H' := am (show impl_bsf.l0 k l0 D I 0 l0.length = some (r1, r2) from h)
  clear h
  go_enter Try.func110, Try.ntmps110
  go_wp2_with (first | ((with_reducible refine gate_dst (N := 4) rfl ?_); refine box_event ?hg (N := 4) ?hd (cs := #[.int .i64 D, .int .i64 I]) (t := 36) ?hr ?_; (case hd => rfl); (case hg => rfl); (case hr => first | (go_simp; done) | (go_simp; rfl)); intro gn hg w3 hbox hb; have X := am (below_step HB.out hb); have J := am hbox; have ao := am ((by rw [hg]; exact (below_size (by repeat (first | (with_reducible first | exact HB.out | apply below_alloc | apply pw_below_drewN | apply below_drew1) | exact HB.out))) : w.heap.size ≤ gn)); clear HB; have HB := X; have BN := J; have GN := ao; clear X J ao hg hb hbox))
  go_loopg [9, 10] k (fun kq v9 ap w' => ∃ (s L : Int), v9 = .int .i64 s ∧ ap = .int .i64 L ∧ Aside0 (impl_bsf.l0 kq l0 D I s L = some (r1, r2)) ∧ Aside0 (0 ≤ s ∧ s ≤ L ∧ L ≤ l0.length) ∧ Aside0 (kq ≤ k) ∧ Aside0 (w'.heap[gn]? = some (.cells #[.int .i64 D, .int .i64 I] 36 (0, 0))) ∧ Aside0 (Below w.heap.size w w'))
  case atStart => exact ⟨0, l0.length, (by first | rfl | (simp; done) | (simp [*]; done)), (by first | rfl | (simp; done) | (simp [*]; done)), H', ⟨by omega⟩, ⟨Nat.le_refl _⟩, ⟨by (with_reducible repeat (first | refine blk_drewN ?_ _ | refine blk_drew ?_ | refine blk_alloc ?_ _)); exact BN.out⟩, ⟨by repeat (first | (with_reducible first | exact HB.out | apply below_alloc | apply pw_below_drewN | apply below_drew1) | exact HB.out)⟩⟩
  case round =>
    clear H'
    obtain ⟨s, L, rfl, rfl, HA, HX, aa, BN, HB⟩ := hrel
    cases gk with
    | zero => exact absurd HA.out (by simp [impl_bsf.l0])
    | succ k1 =>
      have H := HA.out
      clear HA
      simp only [impl_bsf.l0] at H
      by_cases c1 : s < L
      · rw [if_pos c1] at H
        have aq : decide (s < L) = true := decide_eq_true c1
        have hX := HX.out
        have hM := an.out
        have hh := half_u (x := s) (y := L) (by omega)
        have ab : 0 ≤ (s + L) / 2 := by omega
        have ae : (s + L) / 2 < L := by omega
        have af : s ≤ (s + L) / 2 := by omega
        clear c1 hX hM
        go_wp2
        rw [hh]
        clear hh
        generalize (s + L) / 2 = q at H ab ae af ⊢
        have Z := ab
        have q0 : q < (l0.length : Int) := by have := HX.out; omega
        obtain ⟨ad, ea, O, T⟩ := at_T36 al.out q Z q0
        cases ea
        replace O := (HB.out.cell (World.block_lt_of_cell? w _ O)).trans O
        replace T := (HB.out.cell (World.block_lt_of_cell? w _ T)).trans T
        replace Z := eq_true Z
        replace q0 := eq_true q0
        have HQ := am (show 0 ≤ q ∧ q < L ∧ s ≤ q from ⟨ab, ae, af⟩)
        clear ab ae af
        generalize (rd_T36 l0 q).f0 = f0 at H O T
        generalize (rd_T36 l0 q).f1 = f1 at H O T
        refine wp_region_bel (by kernel_rfl) (by kernel_rfl) ?_
        have X := am (blk_drew BN.out)
        have J := am (below_drew1 HB.out)
        clear BN HB
        have BN := X
        have HB := J
        clear X J
        have hx0' : wr.drew.cell? (ad.add (q.toNat * 2)) = some (.int .i64 f0) := O
        have hx1' : wr.drew.cell? ⟨(ad.add (q.toNat * 2)).block, (ad.add (q.toNat * 2)).off + 1, none⟩ = some (.int .i64 f1) := T
        clear O T
        generalize wr.drew = Y at BN HB hx0' hx1' ⊢
        have ag : ∀ p : Bel Y, p.v.cell? (ad.add (q.toNat * 2)) = some (.int .i64 f0) := fun p => cell_bel hx0' p
        have ah : ∀ p : Bel Y, p.v.cell? ⟨(ad.add (q.toNat * 2)).block, (ad.add (q.toNat * 2)).off + 1, none⟩ = some (.int .i64 f1) := fun p => cell_bel hx1' p
        have ai : ∀ p : Bel Y, p.v.cell? ⟨gn, 0, none⟩ = some (.int .i64 D) := fun p => cell_bel ((blk_cell BN.out 0).trans rfl) p
        have aj : ∀ p : Bel Y, p.v.cell? ⟨gn, 1, none⟩ = some (.int .i64 I) := fun p => cell_bel ((blk_cell BN.out 1).trans rfl) p
        clear hx0' hx1'
        by_cases c2 : oN f0 f1 D I < 0
        · rw [if_pos c2] at H
          have ar : decide (oN f0 f1 D I < 0) = true := decide_eq_true c2
          clear c2
          have H' := am H
          clear H
          repeat (go_big_quiet_step (with_reducible exact calls_bel (impl_nodeOrder.calls f0 f1 D I _ _ (iO f0 f1 D I))))
          refine wpQuiet_nil ?_
          intro _ hw'
          obtain ⟨⟨w6, hb⟩, hw''⟩ := hw'
          subst hw''
          clear ag ah ai aj
          have X := am (blk_below BN.out hb)
          have J := am (below_step HB.out hb)
          clear BN HB hb
          have BN := X
          have HB := J
          clear X J
          go_wp2
          go_roundg k1
          case measure => have := aa.out; omega
          case rel => exact ⟨q + 1, L, (by first | rfl | (simp; done) | (simp [*]; done) | (simp; unfold wrap64; have := HQ.out; have := HX.out; have := an.out; omega)), (by first | rfl | (simp; done) | (simp [*]; done)), H', ⟨by have := HQ.out; have := HX.out; omega⟩, ⟨by have := aa.out; omega⟩, ⟨by (with_reducible repeat (first | refine blk_drewN ?_ _ | refine blk_drew ?_ | refine blk_alloc ?_ _)); exact BN.out⟩, ⟨by repeat (first | (with_reducible first | exact HB.out | apply below_alloc | apply pw_below_drewN | apply below_drew1) | exact HB.out)⟩⟩
        · rw [if_neg c2] at H
          have ar : decide (oN f0 f1 D I < 0) = false := decide_eq_false c2
          clear c2
          have H' := am H
          clear H
          repeat (go_big_quiet_step (with_reducible exact calls_bel (impl_nodeOrder.calls f0 f1 D I _ _ (iO f0 f1 D I))))
          refine wpQuiet_nil ?_
          intro _ hw'
          obtain ⟨⟨w6, hb⟩, hw''⟩ := hw'
          subst hw''
          clear ag ah ai aj
          have X := am (blk_below BN.out hb)
          have J := am (below_step HB.out hb)
          clear BN HB hb
          have BN := X
          have HB := J
          clear X J
          go_wp2
          go_roundg k1
          case measure => have := aa.out; omega
          case rel => exact ⟨s, q, (by first | rfl | (simp; done) | (simp [*]; done)), (by first | rfl | (simp; done) | (simp [*]; done)), H', ⟨by have := HQ.out; have := HX.out; omega⟩, ⟨by have := aa.out; omega⟩, ⟨by (with_reducible repeat (first | refine blk_drewN ?_ _ | refine blk_drew ?_ | refine blk_alloc ?_ _)); exact BN.out⟩, ⟨by repeat (first | (with_reducible first | exact HB.out | apply below_alloc | apply pw_below_drewN | apply below_drew1) | exact HB.out)⟩⟩
      · rw [if_neg c1] at H
        have aq : decide (s < L) = false := decide_eq_false c1
        clear c1
        by_cases c3 : s < (l0.length : Int)
        · rw [if_pos c3] at H
          have au : decide (s < (l0.length : Int)) = true := decide_eq_true c3
          have Z : 0 ≤ s := HX.out.1
          have q0 : s < (l0.length : Int) := c3
          obtain ⟨ad, ea, O, T⟩ := at_T36 al.out s Z q0
          cases ea
          replace O := (HB.out.cell (World.block_lt_of_cell? w _ O)).trans O
          replace T := (HB.out.cell (World.block_lt_of_cell? w _ T)).trans T
          replace Z := eq_true Z
          replace q0 := eq_true q0
          clear c3
          generalize (rd_T36 l0 s).f0 = f0 at H O T
          generalize (rd_T36 l0 s).f1 = f1 at H O T
          simp only [Option.some.injEq, Prod.mk.injEq] at H
          obtain ⟨rfl, rfl⟩ := H
          go_wp2
          refine wp_region_bel (by kernel_rfl) (by kernel_rfl) ?_
          have X := am (blk_drew BN.out)
          have J := am (below_drew1 HB.out)
          clear BN HB
          have BN := X
          have HB := J
          clear X J
          have hx0' : wr.drew.cell? (ad.add (s.toNat * 2)) = some (.int .i64 f0) := O
          have hx1' : wr.drew.cell? ⟨(ad.add (s.toNat * 2)).block, (ad.add (s.toNat * 2)).off + 1, none⟩ = some (.int .i64 f1) := T
          clear O T
          generalize wr.drew = Y at BN HB hx0' hx1' ⊢
          have ag : ∀ p : Bel Y, p.v.cell? (ad.add (s.toNat * 2)) = some (.int .i64 f0) := fun p => cell_bel hx0' p
          have ah : ∀ p : Bel Y, p.v.cell? ⟨(ad.add (s.toNat * 2)).block, (ad.add (s.toNat * 2)).off + 1, none⟩ = some (.int .i64 f1) := fun p => cell_bel hx1' p
          have ai : ∀ p : Bel Y, p.v.cell? ⟨gn, 0, none⟩ = some (.int .i64 D) := fun p => cell_bel ((blk_cell BN.out 0).trans rfl) p
          have aj : ∀ p : Bel Y, p.v.cell? ⟨gn, 1, none⟩ = some (.int .i64 I) := fun p => cell_bel ((blk_cell BN.out 1).trans rfl) p
          clear hx0' hx1'
          repeat (go_big_quiet_step (with_reducible exact calls_bel (impl_nodeOrder.calls f0 f1 D I _ _ (iO f0 f1 D I))))
          refine wpQuiet_nil ?_
          intro _ hw'
          obtain ⟨⟨w6, hb⟩, hw''⟩ := hw'
          subst hw''
          go_wp2
          go_ret2
          exact ⟨by first | rfl | (simp; done) | (simp [*]; done), below_step HB.out hb⟩
        · rw [if_neg c3] at H
          simp only [Option.some.injEq, Prod.mk.injEq] at H
          obtain ⟨rfl, rfl⟩ := H
          have au : decide (s < (l0.length : Int)) = false := decide_eq_false c3
          clear c3
          go_wp2
          refine wp_region_bel (by kernel_rfl) (by kernel_rfl) ?_
          have J := am (below_drew1 HB.out)
          clear HB
          have HB := J
          clear J
          generalize wr.drew = Y at HB ⊢
          repeat (go_big_quiet_step (fail))
          refine wpQuiet_nil ?_
          intro _ hw'
          obtain ⟨⟨w6, hb⟩, hw''⟩ := hw'
          subst hw''
          go_wp2
          go_ret2
          exact ⟨by first | rfl | (simp; done) | (simp [*]; done), below_step HB.out hb⟩

/-! ### impl_nodeThere: function 118 -/
def impl_nodeThere.f (k : Nat) (l0 : List S36) (s z : Int) : Option Bool := (impl_bsf.f k l0 s z).bind fun b => some b.2
set_option maxHeartbeats 8000000 in
set_option maxRecDepth 100000 in
theorem impl_nodeThere.calls (k : Nat) (J : Option Addr) (L : Nat) (l0 : List S36) (s z : Int) (r : Bool) (w : World) (O : Kd.C k36 w J l0.length l0) (T : l0.length ≤ L) (h : impl_nodeThere.f k l0 s z = some r) :
    Calls Try.prog 118 #[.slice J l0.length L, .agg #[.int .i64 s, .int .i64 z]] w fun e w' => e = .returned (.bool r) ∧ Below w.heap.size w w' := by
  have hu36 := Try.underlying36
  have Z := am O
  have aa := am T
  clear O T
  have HB := am (Below.refl w.heap.size w)
  obtain ⟨⟨q1, q2⟩, hq, h⟩ := Option.bind_eq_some_iff.1 h
  obtain rfl := Option.some.inj h
  have HQ := am hq
  clear hq h
  go_enter Try.func118, Try.ntmps118
  go_wp2_with (first | ((with_reducible refine gate_dst (N := 3) rfl ?_); refine box_event ?hg (N := 3) ?hd (cs := #[.int .i64 s, .int .i64 z]) (t := 36) ?hr ?_; (case hd => rfl); (case hg => rfl); (case hr => first | (go_simp; done) | (go_simp; rfl)); intro gn hg X hbox hb; have I := am (below_step HB.out hb); have Y := am hbox; clear HB; have HB := I; have BN := Y; clear I Y hg hb hbox; have ab : X.cell? ⟨gn, 0, none⟩ = some (.int .i64 s) := (blk_cell BN.out 0).trans rfl; have ac : X.cell? ⟨gn, 1, none⟩ = some (.int .i64 z) := (blk_cell BN.out 1).trans rfl))
  refine (impl_bsf.calls k _ _ l0 s z q1 q2 _ ?ae aa.out HQ.out).mono ?_
  case ae => repeat (first | exact (Kd.C_below Z.out HB.out) | (with_reducible refine Kd.C_alloc ?_ _) | (with_reducible refine Kd.C_drewN ?_ _) | (with_reducible refine Kd.C_drew ?_))
  rintro e w5 ⟨rfl, hb⟩
  have I := am (below_step (by repeat (first | (with_reducible first | exact HB.out | apply below_alloc | apply pw_below_drewN | apply below_drew1) | exact HB.out)) hb)
  clear HB hb BN ab ac
  have HB := I
  clear I
  go_wp2
  go_ret
  exact ⟨by first | rfl | (simp; done) | (simp [*]; done), by repeat (first | (with_reducible first | exact HB.out | apply below_alloc | apply pw_below_drewN | apply below_drew1) | exact HB.out)⟩

end Go.Proofs.Ytohmemckdogljaa.QFnExactGraphDo
