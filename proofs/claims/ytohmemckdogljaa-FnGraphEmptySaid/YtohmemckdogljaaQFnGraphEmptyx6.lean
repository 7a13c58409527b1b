/- Contracts of the Go functions that this law reaches: each does what its plain Lean function says. No condition. -/
import Derived.Test.YtohmemckdogljaaQFnGraphEmptyx0
import Derived.Test.YtohmemckdogljaaQFnGraphEmptyx5
namespace Go.Proofs.Ytohmemckdogljaa.QFnGraphEmpty
open Go.RowKit Go.Proofs.YtohmemckdogljaaW.PrintWords Go.Proofs.YtohmemckdogljaaW.PrintLast Go.Proofs.YtohmemckdogljaaW.PrintMore Go.Proofs.Ytohmemckdogljaa.Bl
attribute [local go_sem] max2_int min2_int max_two min_two max_three min_three max_four min_four   -- for this text's walks alone
set_option linter.unusedVariables false
set_option linter.unusedSimpArgs false

/-! ### impl_nodesOk: function 81 -/
/-- Counts, as the cells of an array. -/
def cts (m : List Int) : Array Value := (m.map fun x => Value.int .i64 x).toArray
theorem cts_get (m : List Int) (i : Nat) (h : i < m.length) : (cts m)[i]? = some (.int .i64 (rd m i)) := by
  simp [cts, rd, h]
theorem cts_set (m : List Int) (i : Nat) (x : Int) : (cts m).setIfInBounds i (.int .i64 x) = cts (m.set i x) := by
  simp [cts, List.map_set]
def impl_nodesOk.l0 : Nat → List S36 → Int → List Int → Int → Option Bool
  | 0, _, _, _, _ => none
  | k + 1, xs, last, m, i => if i < (xs.length : Int) then (if 0 ≤ i then (if Cd (rd_T36 xs i).f0 (rd_T36 xs i).f1 ≤ last then some false else (if rd m (rd_T36 xs i).f0 = 5 then some false else impl_nodesOk.l0 k xs (Cd (rd_T36 xs i).f0 (rd_T36 xs i).f1) (m.set ((rd_T36 xs i).f0).toNat (wrap64 (rd m (rd_T36 xs i).f0 + 1))) (wrap64 (i + 1)))) else none) else some true
def impl_nodesOk.f (k : Nat) (l0 : List S36) : Option Bool := impl_nodesOk.l0 k l0 (-1) [0, 0, 0, 0, 0, 0, 0, 0] 0
set_option maxHeartbeats 8000000 in
set_option maxRecDepth 100000 in
theorem impl_nodesOk.calls (k : Nat) (A0 : Option Addr) (c0 : Nat) (l0 : List S36) (r : Bool) (w : World) (hr0 : Kd.C k36 w A0 l0.length l0) (hc0 : l0.length ≤ c0) (h : impl_nodesOk.f k l0 = some r) :
    Calls Try.prog 81 #[.slice A0 l0.length c0] w fun e w' => e = .returned (.bool r) ∧ Below w.heap.size w w' := by
  have hu36 := Try.underlying36
  have hu122 := Try.underlying122
  have HR0 := Aside0.mk hr0
  have HC0 := Aside0.mk hc0
  clear hr0 hc0
  have HB := Aside0.mk (Below.refl w.heap.size w)
  have H' := Aside0.mk (show impl_nodesOk.l0 k l0 (-1) [0, 0, 0, 0, 0, 0, 0, 0] 0 = some r from h)
  clear h
  go_enter Try.func81, Try.ntmps81
  go_wp2_with (first | ((with_reducible refine gate_dst (N := 3) rfl ?_); refine box_event ?hg (N := 3) ?hd (cs := cts [0, 0, 0, 0, 0, 0, 0, 0]) (t := 122) ?hr ?_; (case hd => rfl); (case hg => rfl); (case hr => first | (go_simp; done) | (go_simp; rfl)); intro gb hg w3 hbox hb; have n0_ := Aside0.mk (below_step HB.out hb); have n1_ := Aside0.mk hbox; have n2_ := Aside0.mk ((by rw [hg]; exact (below_size (by repeat (first | (with_reducible first | exact HB.out | apply below_alloc | apply pw_below_drewN | apply below_drew1) | exact HB.out))) : w.heap.size ≤ gb)); clear HB; have HB := n0_; have BK := n1_; have GE := n2_; clear n0_ n1_ n2_ hg hb hbox))
  go_loopg [4, 10] k (fun kq v4 v10 w' => ∃ (x4 x10 : Int) (m : List Int), v4 = .int .i64 x4 ∧ v10 = .int .i64 x10 ∧ Aside0 (impl_nodesOk.l0 kq l0 x4 m x10 = some r) ∧ Aside0 (-1 ≤ x4 ∧ m.length = 8) ∧ Aside0 (kq ≤ k) ∧ Aside0 (w'.heap[gb]? = some (.cells (cts m) 122 (0, 0))) ∧ Aside0 (Below w.heap.size w w'))
  case atStart => exact ⟨-1, 0, [0, 0, 0, 0, 0, 0, 0, 0], (by first | rfl | (simp; done) | (simp [*]; done)), (by first | rfl | (simp; done) | (simp [*]; done)), H', ⟨by omega, rfl⟩, ⟨Nat.le_refl _⟩, ⟨by (with_reducible repeat (first | refine blk_drewN ?_ _ | refine blk_drew ?_ | refine blk_alloc ?_ _)); exact BK.out⟩, ⟨by repeat (first | (with_reducible first | exact HB.out | apply below_alloc | apply pw_below_drewN | apply below_drew1 | refine below_set ?_ GE.out) | exact HB.out)⟩⟩
  case round =>
    clear H'
    obtain ⟨x4, x10, m, rfl, rfl, HA, HM, HK1, BK, HB⟩ := hrel
    cases gk with
    | zero => exact absurd HA.out (by simp [impl_nodesOk.l0])
    | succ k1 =>
      have H := HA.out
      clear HA
      simp only [impl_nodesOk.l0] at H
      by_cases c1 : x10 < (l0.length : Int)
      · rw [if_pos c1] at H
        have c1b0 : decide (x10 < (l0.length : Int)) = true := decide_eq_true c1
        by_cases c2 : 0 ≤ x10
        · rw [if_pos c2] at H
          have p0 := c2
          have q0 := c1
          obtain ⟨ad, ea, hx0, hx1⟩ := at_T36 HR0.out x10 p0 q0
          cases ea
          replace hx0 := (HB.out.cell (World.block_lt_of_cell? w _ hx0)).trans hx0
          replace hx1 := (HB.out.cell (World.block_lt_of_cell? w _ hx1)).trans hx1
          replace p0 := eq_true p0
          replace q0 := eq_true q0
          generalize (rd_T36 l0 x10).f0 = f0 at H hx0 hx1
          generalize (rd_T36 l0 x10).f1 = f1 at H hx0 hx1
          clear c1 c2
          go_wp2_with (first | ((with_reducible refine gate_dst (N := 6) rfl ?_); refine box_event ?hg (N := 6) ?hd (cs := #[.int .i64 0, .int .i64 0]) (t := 36) ?hr ?_; (case hd => rfl); (case hg => rfl); (case hr => first | (go_simp; done) | (go_simp; rfl)); intro gn hg w5 hbox hb; have n0_ := Aside0.mk (blk_below (g := gb) (by (with_reducible repeat (first | refine blk_drewN ?_ _ | refine blk_drew ?_ | refine blk_alloc ?_ _)); exact BK.out) hb); have n1_ := Aside0.mk (below_step (by repeat (first | (with_reducible first | exact HB.out | apply below_alloc | apply pw_below_drewN | apply below_drew1 | refine below_set ?_ GE.out) | exact HB.out)) hb); have n2_ := Aside0.mk hbox; have n3_ := Aside0.mk ((by rw [hg]; exact (below_size (by repeat (first | (with_reducible first | exact HB.out | apply below_alloc | apply pw_below_drewN | apply below_drew1 | refine below_set ?_ GE.out) | exact HB.out))) : w.heap.size ≤ gn)); have n4_ := Aside0.mk ((by rw [hg]; exact Nat.ne_of_lt (blk_lt (g := gb) (by (with_reducible repeat (first | refine blk_drewN ?_ _ | refine blk_drew ?_ | refine blk_alloc ?_ _)); exact BK.out)) : gb ≠ gn)); clear BK HB; have BK := n0_; have HB := n1_; have BN := n2_; have GN := n3_; have NE := n4_; clear n0_ n1_ n2_ n3_ n4_; clear hb hbox hg; have hcz0 : w5.cell? ⟨gn, 0, none⟩ = some (.int .i64 0) := (blk_cell BN.out 0).trans rfl; have hcz1 : w5.cell? ⟨gn, 1, none⟩ = some (.int .i64 0) := (blk_cell BN.out 1).trans rfl; have hfz0 := blk_frozen BN.out 0; have hfz1 := blk_frozen BN.out 1))
          have n0_ := Aside0.mk (blk_far (blk_far BK.out (p := ⟨gn, 0, none⟩) NE.out (.int .i64 f0)) (p := ⟨gn, 1, none⟩) NE.out (.int .i64 f1))
          have n1_ := Aside0.mk (blk_put (cs' := #[.int .i64 f0, .int .i64 f1]) (blk_put (cs' := #[.int .i64 f0, .int .i64 0]) BN.out 0 (.int .i64 f0) rfl) 1 (.int .i64 f1) rfl)
          have n2_ := Aside0.mk (below_set (j := 1) (v := .int .i64 f1) (below_set (j := 0) (v := .int .i64 f0) HB.out GN.out) GN.out)
          clear BK BN HB hcz0 hcz1 hfz0 hfz1
          have BK := n0_
          have BN := n1_
          have HB := n2_
          clear n0_ n1_ n2_
          generalize (w5.setCell ⟨gn, 0, none⟩ (.int .i64 f0)).setCell ⟨gn, 1, none⟩ (.int .i64 f1) = w6 at BK BN HB ⊢
          refine (impl_NodeCode.calls _ _ _ _ (iC _ _)).mono ?_
          rintro e w7 ⟨rfl, hb⟩
          have n0_ := Aside0.mk (blk_below BK.out hb)
          have n1_ := Aside0.mk (blk_below BN.out hb)
          have n2_ := Aside0.mk (below_step HB.out hb)
          clear BK BN HB hb
          have BK := n0_
          have BN := n1_
          have HB := n2_
          clear n0_ n1_ n2_
          have hcz0 : w7.cell? ⟨gn, 0, none⟩ = some (.int .i64 f0) := (blk_cell BN.out 0).trans rfl
          have hcz1 : w7.cell? ⟨gn, 1, none⟩ = some (.int .i64 f1) := (blk_cell BN.out 1).trans rfl
          by_cases c3 : Cd f0 f1 ≤ x4
          · rw [if_pos c3] at H
            have c3b0 : decide (Cd f0 f1 ≤ x4) = true := decide_eq_true c3
            clear c3
            obtain rfl := Option.some.inj H
            go_wp2
            go_ret
            exact ⟨by first | rfl | (simp; done) | (simp [*]; done), by repeat (first | (with_reducible first | exact HB.out | apply below_alloc | apply pw_below_drewN | apply below_drew1) | exact HB.out)⟩
          · rw [if_neg c3] at H
            have c3b0 : decide (Cd f0 f1 ≤ x4) = false := decide_eq_false c3
            have hok := Cd_ok (a := f0) (b := f1) (by have := HM.out.1; omega)
            obtain ⟨j, rfl⟩ := Int.eq_ofNat_of_zero_le hok.2.1
            have hj8 : j < 8 := by omega
            have hjm : j < m.length := by have := HM.out.2; omega
            have hcm : w7.cell? ⟨gb, j, none⟩ = some (.int .i64 (rd m j)) := (blk_cell BK.out j).trans (cts_get m j hjm)
            have hfm := blk_frozen BK.out j
            have hlo : (0 ≤ (j : Int)) = True := eq_true (by omega)
            have hhi : ((j : Int) < 8) = True := eq_true (by omega)
            have hC0 : -1 ≤ Cd (j : Int) f1 := by rw [hok.1]; omega
            clear c3 hok
            by_cases c4 : rd m (j : Int) = 5
            · rw [if_pos c4] at H
              have c4b0 : (rd m (j : Int) == 5) = true := beq_iff_eq.mpr c4
              clear c4
              obtain rfl := Option.some.inj H
              go_wp2
              go_ret
              exact ⟨by first | rfl | (simp; done) | (simp [*]; done), by repeat (first | (with_reducible first | exact HB.out | apply below_alloc | apply pw_below_drewN | apply below_drew1) | exact HB.out)⟩
            · rw [if_neg c4] at H
              have c4b0 : (rd m (j : Int) == 5) = false := beq_eq_false_iff_ne.mpr c4
              clear c4
              have H' := Aside0.mk H
              clear H
              go_wp2
              go_roundg k1
              case measure => have := HK1.out; omega
              case rel => exact ⟨Cd (j : Int) f1, wrap64 (x10 + 1), m.set j (wrap64 (rd m (j : Int) + 1)), (by first | rfl | (simp; done) | (simp [*]; done)), (by first | rfl | (simp; done) | (simp [*]; done)), ⟨by simpa using H'.out⟩, ⟨hC0, by simpa using HM.out.2⟩, ⟨by have := HK1.out; omega⟩, ⟨by refine blk_put ?_ j _ (cts_set m j _); exact BK.out⟩, ⟨by refine below_set ?_ GE.out; exact HB.out⟩⟩
        · rw [if_neg c2] at H; cases H
      · rw [if_neg c1] at H
        have c1b0 : decide (x10 < (l0.length : Int)) = false := decide_eq_false c1
        clear c1
        obtain rfl := Option.some.inj H
        go_wp2
        go_ret
        exact ⟨by first | rfl | (simp; done) | (simp [*]; done), by repeat (first | (with_reducible first | exact HB.out | apply below_alloc | apply pw_below_drewN | apply below_drew1 | refine below_set ?_ GE.out) | exact HB.out)⟩

/-! ### cmp_isNaN_int: function 160 -/
def cmp_isNaN_int.f (a0 : Int) : Option (Bool) := some (a0 != a0)
set_option maxHeartbeats 8000000 in
set_option maxRecDepth 100000 in
theorem cmp_isNaN_int.calls (a0 : Int) (r : Bool) (w : World) (h : cmp_isNaN_int.f a0 = some r) :
  Calls Try.prog 160 #[.int .i64 a0] w fun e w' => e = .returned (.bool r) ∧ Drawn0 w w' := by
 have H := h; unfold cmp_isNaN_int.f at H
 clear h
 obtain rfl := Option.some.inj H
 go_enter Try.func160, Try.ntmps160
 go_wp2
 go_ret
 exact ⟨by first | rfl | (simp; done) | (simp [*]; done), by repeat (first | exact Drawn0.refl _ | apply Drawn0.step)⟩

/-! ### cmp_Compare_int: function 138 -/
def cmp_Compare_int.f (a0 : Int) (a1 : Int) : Option (Int) := (cmp_isNaN_int.f a0).bind fun t158 => ((cmp_isNaN_int.f a1).bind fun t159 => (if t158 = true then (if t159 = true then (some 0) else (some (-1))) else (if t159 = true then (some 1) else (if a0 < a1 then (some (-1)) else (if a0 > a1 then (some 1) else (some 0))))))
set_option maxHeartbeats 8000000 in
set_option maxRecDepth 100000 in
theorem cmp_Compare_int.calls (a0 : Int) (a1 : Int) (r : Int) (w : World) (h : cmp_Compare_int.f a0 a1 = some r) :
  Calls Try.prog 138 #[.int .i64 a0, .int .i64 a1] w fun e w' => e = .returned (.int .i64 r) ∧ Drawn0 w w' := by
 have H := h; unfold cmp_Compare_int.f at H
 clear h
 replace H := Option.bind_eq_some_iff.mp H
 obtain ⟨t158, A30, H⟩ := H
 try dsimp -simprocs only at H
 have A3 := Aside0.mk A30
 clear A30
 replace H := Option.bind_eq_some_iff.mp H
 obtain ⟨t159, A40, H⟩ := H
 try dsimp -simprocs only at H
 have A4 := Aside0.mk A40
 clear A40
 by_cases c5 : t158 = true
 ·subst c5
  have H1 : (if t159 = true then (some 0) else (some (-1))) = some r := by rw [if_pos rfl] at H; exact H
  clear H
  have H := H1
  clear H1
  by_cases c6 : t159 = true
  ·subst c6
   have H1 : (some 0) = some r := by rw [if_pos rfl] at H; exact H
   clear H
   have H := H1
   clear H1
   obtain rfl := Option.some.inj H
   go_enter Try.func138, Try.ntmps138
   go_wp2_with (first | ((with_reducible refine gc (f := 160) rfl ?_); refine gl 8 Try.func160 #[.int .i64 a0] ?_; (with_reducible refine (cmp_isNaN_int.calls a0 true _ A3.out).mono ?_); rintro e w' ⟨rfl, ⟨nd, rfl⟩⟩; refine ⟨_, rfl, ?_⟩) | ((with_reducible refine gc (f := 160) rfl ?_); refine gl 10 Try.func160 #[.int .i64 a1] ?_; (with_reducible refine (cmp_isNaN_int.calls a1 true _ A4.out).mono ?_); rintro e w' ⟨rfl, ⟨nd, rfl⟩⟩; refine ⟨_, rfl, ?_⟩))
   go_ret
   exact ⟨by first | rfl | (simp; done) | (simp [*]; done), by repeat (first | exact Drawn0.refl _ | apply Drawn0.step)⟩
  ·replace c6 := Bool.eq_false_iff.mpr c6
   subst c6
   have H1 : (some (-1)) = some r := by rw [if_neg (show ¬ (false = true) by decide)] at H; exact H
   clear H
   have H := H1
   clear H1
   obtain rfl := Option.some.inj H
   go_enter Try.func138, Try.ntmps138
   go_wp2_with (first | ((with_reducible refine gc (f := 160) rfl ?_); refine gl 8 Try.func160 #[.int .i64 a0] ?_; (with_reducible refine (cmp_isNaN_int.calls a0 true _ A3.out).mono ?_); rintro e w' ⟨rfl, ⟨nd, rfl⟩⟩; refine ⟨_, rfl, ?_⟩) | ((with_reducible refine gc (f := 160) rfl ?_); refine gl 10 Try.func160 #[.int .i64 a1] ?_; (with_reducible refine (cmp_isNaN_int.calls a1 false _ A4.out).mono ?_); rintro e w' ⟨rfl, ⟨nd, rfl⟩⟩; refine ⟨_, rfl, ?_⟩))
   go_ret
   exact ⟨by first | rfl | (simp; done) | (simp [*]; done), by repeat (first | exact Drawn0.refl _ | apply Drawn0.step)⟩
 ·replace c5 := Bool.eq_false_iff.mpr c5
  subst c5
  have H1 : (if t159 = true then (some 1) else (if a0 < a1 then (some (-1)) else (if a0 > a1 then (some 1) else (some 0)))) = some r := by rw [if_neg (show ¬ (false = true) by decide)] at H; exact H
  clear H
  have H := H1
  clear H1
  by_cases c7 : t159 = true
  ·subst c7
   have H1 : (some 1) = some r := by rw [if_pos rfl] at H; exact H
   clear H
   have H := H1
   clear H1
   obtain rfl := Option.some.inj H
   go_enter Try.func138, Try.ntmps138
   go_wp2_with (first | ((with_reducible refine gc (f := 160) rfl ?_); refine gl 8 Try.func160 #[.int .i64 a0] ?_; (with_reducible refine (cmp_isNaN_int.calls a0 false _ A3.out).mono ?_); rintro e w' ⟨rfl, ⟨nd, rfl⟩⟩; refine ⟨_, rfl, ?_⟩) | ((with_reducible refine gc (f := 160) rfl ?_); refine gl 10 Try.func160 #[.int .i64 a1] ?_; (with_reducible refine (cmp_isNaN_int.calls a1 true _ A4.out).mono ?_); rintro e w' ⟨rfl, ⟨nd, rfl⟩⟩; refine ⟨_, rfl, ?_⟩))
   go_ret
   exact ⟨by first | rfl | (simp; done) | (simp [*]; done), by repeat (first | exact Drawn0.refl _ | apply Drawn0.step)⟩
  ·replace c7 := Bool.eq_false_iff.mpr c7
   subst c7
   have H1 : (if a0 < a1 then (some (-1)) else (if a0 > a1 then (some 1) else (some 0))) = some r := by rw [if_neg (show ¬ (false = true) by decide)] at H; exact H
   clear H
   have H := H1
   clear H1
   by_cases c8 : a0 < a1
   ·rw [if_pos c8] at H
    have c8b0 : decide (a0 < a1) = true := decide_eq_true c8
    clear c8
    obtain rfl := Option.some.inj H
    go_enter Try.func138, Try.ntmps138
    go_wp2_with (first | ((with_reducible refine gc (f := 160) rfl ?_); refine gl 8 Try.func160 #[.int .i64 a0] ?_; (with_reducible refine (cmp_isNaN_int.calls a0 false _ A3.out).mono ?_); rintro e w' ⟨rfl, ⟨nd, rfl⟩⟩; refine ⟨_, rfl, ?_⟩) | ((with_reducible refine gc (f := 160) rfl ?_); refine gl 10 Try.func160 #[.int .i64 a1] ?_; (with_reducible refine (cmp_isNaN_int.calls a1 false _ A4.out).mono ?_); rintro e w' ⟨rfl, ⟨nd, rfl⟩⟩; refine ⟨_, rfl, ?_⟩))
    go_ret
    exact ⟨by first | rfl | (simp; done) | (simp [*]; done), by repeat (first | exact Drawn0.refl _ | apply Drawn0.step)⟩
   ·rw [if_neg c8] at H
    have c8b0 : decide (a0 < a1) = false := decide_eq_false c8
    clear c8
    by_cases c9 : a0 > a1
    ·rw [if_pos c9] at H
     have c9b0 : decide (a1 < a0) = true := decide_eq_true c9
     clear c9
     obtain rfl := Option.some.inj H
     go_enter Try.func138, Try.ntmps138
     go_wp2_with (first | ((with_reducible refine gc (f := 160) rfl ?_); refine gl 8 Try.func160 #[.int .i64 a0] ?_; (with_reducible refine (cmp_isNaN_int.calls a0 false _ A3.out).mono ?_); rintro e w' ⟨rfl, ⟨nd, rfl⟩⟩; refine ⟨_, rfl, ?_⟩) | ((with_reducible refine gc (f := 160) rfl ?_); refine gl 10 Try.func160 #[.int .i64 a1] ?_; (with_reducible refine (cmp_isNaN_int.calls a1 false _ A4.out).mono ?_); rintro e w' ⟨rfl, ⟨nd, rfl⟩⟩; refine ⟨_, rfl, ?_⟩))
     go_ret
     exact ⟨by first | rfl | (simp; done) | (simp [*]; done), by repeat (first | exact Drawn0.refl _ | apply Drawn0.step)⟩
    ·rw [if_neg c9] at H
     have c9b0 : decide (a1 < a0) = false := decide_eq_false c9
     clear c9
     obtain rfl := Option.some.inj H
     go_enter Try.func138, Try.ntmps138
     go_wp2_with (first | ((with_reducible refine gc (f := 160) rfl ?_); refine gl 8 Try.func160 #[.int .i64 a0] ?_; (with_reducible refine (cmp_isNaN_int.calls a0 false _ A3.out).mono ?_); rintro e w' ⟨rfl, ⟨nd, rfl⟩⟩; refine ⟨_, rfl, ?_⟩) | ((with_reducible refine gc (f := 160) rfl ?_); refine gl 10 Try.func160 #[.int .i64 a1] ?_; (with_reducible refine (cmp_isNaN_int.calls a1 false _ A4.out).mono ?_); rintro e w' ⟨rfl, ⟨nd, rfl⟩⟩; refine ⟨_, rfl, ?_⟩))
     go_ret
     exact ⟨by first | rfl | (simp; done) | (simp [*]; done), by repeat (first | exact Drawn0.refl _ | apply Drawn0.step)⟩

/-! ### impl_nodeOrder: function 105 -/
def impl_nodeOrder.f (a0_0 : Int) (a0_1 : Int) (a1_0 : Int) (a1_1 : Int) : Option (Int) := (impl_NodeCode.f a0_0 a0_1).bind fun t162 => ((impl_NodeCode.f a1_0 a1_1).bind fun t163 => ((cmp_Compare_int.f t162 t163).bind fun t164 => (some t164)))
set_option maxHeartbeats 8000000 in
set_option maxRecDepth 100000 in
theorem impl_nodeOrder.calls (a0_0 : Int) (a0_1 : Int) (a1_0 : Int) (a1_1 : Int) (r : Int) (w : World) (h : impl_nodeOrder.f a0_0 a0_1 a1_0 a1_1 = some r) :
  Calls Try.prog 105 #[.agg #[.int .i64 a0_0, .int .i64 a0_1], .agg #[.int .i64 a1_0, .int .i64 a1_1]] w fun e w' => e = .returned (.int .i64 r) ∧ Below w.heap.size w w' := by
 have hu36 := Try.underlying36
 have HB := Aside0.mk (Below.refl w.heap.size w)
 have H := h; unfold impl_nodeOrder.f at H
 clear h
 replace H := Option.bind_eq_some_iff.mp H
 obtain ⟨t162, A30, H⟩ := H
 try dsimp -simprocs only at H
 have A3 := Aside0.mk A30
 clear A30
 replace H := Option.bind_eq_some_iff.mp H
 obtain ⟨t163, A40, H⟩ := H
 try dsimp -simprocs only at H
 have A4 := Aside0.mk A40
 clear A40
 replace H := Option.bind_eq_some_iff.mp H
 obtain ⟨t164, A50, H⟩ := H
 try dsimp -simprocs only at H
 have A5 := Aside0.mk A50
 clear A50
 obtain rfl := Option.some.inj H
 go_enter Try.func105, Try.ntmps105
 try go_wp2_with (first | ((with_reducible refine gd (N := 2) rfl ?_); refine bx 2 (cs := #[.int .i64 a0_0, .int .i64 a0_1]) (t := 36) ?_; intro gb160 hg w6 hbox hb; have BK160 := Aside0.mk (hbox); have GW160 := gwb HB hg; replace HB := hs HB hb; clear hb hbox hg) | ((with_reducible refine gd (N := 3) rfl ?_); refine bx 3 (cs := #[.int .i64 a1_0, .int .i64 a1_1]) (t := 36) ?_; intro gb161 hg w7 hbox hb; have BK161 := Aside0.mk (hbox); have GW161 := gwb HB hg; replace HB := hs HB hb; have NB160_161 := nq BK160 hg; have NB161_160 := nq' BK160 hg; replace BK160 := bb BK160 hb rfl; clear hb hbox hg))
 replace BK160 := bd BK160
 replace BK161 := bd BK161
 replace HB := hd HB
 refine wp_region_bel (by kernel_rfl) (by kernel_rfl) ?_
 generalize w7.drew = w8 at BK160 BK161 HB ⊢
 have hbp_ := fun (p_ : Bel w8) => below_step HB.out p_.h
 have hz0_ : ∀ p_ : Bel w8, p_.v.cell? ⟨gb160, 0, none⟩ = some (.int .i64 a0_0) := fun p_ => cell_bel ((blk_cell BK160.out 0).trans rfl) p_
 have hz1_ : ∀ p_ : Bel w8, p_.v.cell? ⟨gb160, 1, none⟩ = some (.int .i64 a0_1) := fun p_ => cell_bel ((blk_cell BK160.out 1).trans rfl) p_
 have hz2_ : ∀ p_ : Bel w8, p_.v.cell? ⟨gb161, 0, none⟩ = some (.int .i64 a1_0) := fun p_ => cell_bel ((blk_cell BK161.out 0).trans rfl) p_
 have hz3_ : ∀ p_ : Bel w8, p_.v.cell? ⟨gb161, 1, none⟩ = some (.int .i64 a1_1) := fun p_ => cell_bel ((blk_cell BK161.out 1).trans rfl) p_
 repeat (go_big_quiet_step (first
  | (with_reducible show Calls Try.prog 116 #[.agg #[.int .i64 a0_0, .int .i64 a0_1]] _ _; with_reducible exact calls_bel (impl_NodeCode.calls a0_0 a0_1 t162 _ A3.out))
  | (with_reducible show Calls Try.prog 116 #[.agg #[.int .i64 a1_0, .int .i64 a1_1]] _ _; with_reducible exact calls_bel (impl_NodeCode.calls a1_0 a1_1 t163 _ A4.out))
  | (with_reducible show Calls Try.prog 138 #[.int .i64 t162, .int .i64 t163] _ _; with_reducible exact calls_bel0 (cmp_Compare_int.calls t162 t163 t164 _ A5.out))))
 refine wpQuiet_nil ?_
 intro w10 hw'
 obtain ⟨⟨wq_, hb⟩, hw''⟩ := hw'
 subst hw''
 clear hbp_ hz0_ hz1_ hz2_ hz3_
 replace BK160 := bb BK160 hb rfl
 replace BK161 := bb BK161 hb rfl
 replace HB := hs HB hb
 (try clear hb)
 (try clear hb2)
 (try clear hk)
 (try clear hi)
 try go_wp2
 go_ret
 exact ⟨by first | rfl | (simp [*, errW_none, errW_some] <;> rfl), bs HB.out⟩

/-! ### cmp_Or_int: function 142 -/
def cmp_Or_int.l0 : Nat → Int → List Int → Int → Int → Option (Int)
 | 0, _, _, _, _ => none
 | k + 1, x3, x6, x7, x8 => if x8 < x7 then (if 0 ≤ x8 then (if x8 < (x6.length : Int) then (if (rd x6 x8) = x3 then (cmp_Or_int.l0 k x3 x6 x7 (wrap64 (x8 + 1))) else (some (rd x6 x8))) else (none)) else (none)) else (some x3)
def cmp_Or_int.f (k : Nat) (l0 : List Int) : Option (Int) := cmp_Or_int.l0 k 0 l0 (l0.length : Int) 0
set_option maxHeartbeats 8000000 in
set_option maxRecDepth 100000 in
theorem cmp_Or_int.calls (k : Nat) (A0 : Option Addr) (c0 : Nat) (l0 : List Int) (r : Int) (w : World) (hr0 : Kd.C (Kd.int .i64) w A0 l0.length l0) (hc0 : l0.length ≤ c0) (h : cmp_Or_int.f k l0 = some r) :
  Calls Try.prog 142 #[.slice A0 l0.length c0] w fun e w' => e = .returned (.int .i64 r) ∧ Drawn0 w w' := by
 have HR0 := Aside0.mk hr0
 have HC0 := Aside0.mk hc0
 clear hr0 hc0
 have H := h; unfold cmp_Or_int.f at H
 clear h
 have H' := Aside0.mk H
 clear H
 go_enter Try.func142, Try.ntmps142
 go_wp2
 go_loopg [8] k (fun kq v8 w' => ∃ (x8_1 : Int), v8 = .int .i64 x8_1 ∧ Aside0 (cmp_Or_int.l0 kq 0 l0 (l0.length : Int) x8_1 = some r) ∧ Aside0 (kq ≤ k) ∧ Drawn0 w w')
 case atStart => exact ⟨(0), (by first | rfl | (simp; done) | (simp [*]; done)), H', ⟨Nat.le_refl _⟩, by repeat (first | exact Drawn0.refl _ | apply Drawn0.step)⟩
 case round =>
  clear H'
  try clear c1
  obtain ⟨x8_1, rfl, HA, HK1, ⟨m1, rfl⟩⟩ := hrel
  cases gk with
  | zero => exact absurd HA.out (by simp [cmp_Or_int.l0])
  | succ k1 =>
   have H := HA.out
   clear HA
   simp only [cmp_Or_int.l0] at H
   by_cases c2 : x8_1 < (l0.length : Int)
   ·rw [if_pos c2] at H
    have c2b0 : decide (x8_1 < (l0.length : Int)) = true := decide_eq_true c2
    clear c2
    by_cases c3 : 0 ≤ x8_1
    ·rw [if_pos c3] at H
     have c3b0 : decide (0 ≤ x8_1) = true := decide_eq_true c3
     clear c3
     by_cases c4 : x8_1 < (l0.length : Int)
     ·rw [if_pos c4] at H
      have c4b0 : decide (x8_1 < (l0.length : Int)) = true := decide_eq_true c4
      clear c4
      by_cases c5 : (rd l0 x8_1) = 0
      ·rw [if_pos c5] at H
       have c5b0 : ((rd l0 x8_1) == 0) = true := beq_iff_eq.mpr c5
       have c5b1 : ((rd l0 x8_1) != 0) = false := bne_eq_false_iff_eq.mpr c5
       clear c5
       have H' := Aside0.mk H
       clear H
       have p165 : 0 ≤ (x8_1 : Int) := of_decide_eq_true (by first | (with_reducible assumption) | assumption)
       have q165 : x8_1 < (l0.length : Int) := of_decide_eq_true (by first | (with_reducible assumption) | assumption)
       obtain ⟨ad165, e165, hx165_0⟩ := Kd.at_int HR0.out x8_1 p165 q165
       cases e165
       replace p165 := eq_true p165
       replace q165 := eq_true q165
       go_wp2
       go_roundg k1
       case measure => have := HK1.out; omega
       case rel => exact ⟨(wrap64 (x8_1 + 1)), (by first | rfl | (simp; done) | (simp [*]; done)), H', ⟨by have := HK1.out; omega⟩, by repeat (first | exact Drawn0.refl _ | apply Drawn0.step)⟩
      ·rw [if_neg c5] at H
       have c5b0 : ((rd l0 x8_1) == 0) = false := beq_eq_false_iff_ne.mpr c5
       have c5b1 : ((rd l0 x8_1) != 0) = true := bne_iff_ne.mpr c5
       obtain rfl := Option.some.inj H
       have p165 : 0 ≤ (x8_1 : Int) := of_decide_eq_true (by first | (with_reducible assumption) | assumption)
       have q165 : x8_1 < (l0.length : Int) := of_decide_eq_true (by first | (with_reducible assumption) | assumption)
       obtain ⟨ad165, e165, hx165_0⟩ := Kd.at_int HR0.out x8_1 p165 q165
       cases e165
       replace p165 := eq_true p165
       replace q165 := eq_true q165
       go_wp2
       go_ret
       exact ⟨by first | rfl | (simp; done) | (simp [*]; done), by repeat (first | exact Drawn0.refl _ | apply Drawn0.step)⟩
     ·rw [if_neg c4] at H
      exact absurd H (by simp)
    ·rw [if_neg c3] at H
     exact absurd H (by simp)
   ·rw [if_neg c2] at H
    have c2b0 : decide (x8_1 < (l0.length : Int)) = false := decide_eq_false c2
    clear c2
    obtain rfl := Option.some.inj H
    go_wp2
    go_ret
    exact ⟨by first | rfl | (simp; done) | (simp [*]; done), by repeat (first | exact Drawn0.refl _ | apply Drawn0.step)⟩

/-! ### impl_edgeOrder: function 117 -/
def impl_edgeOrder.f (k : Nat) (a0_0 : Int) (a0_1 : Int) (a0_2 : Int) (a0_3 : Int) (a0_4 : Int) (a1_0 : Int) (a1_1 : Int) (a1_2 : Int) (a1_3 : Int) (a1_4 : Int) : Option (Int) := (cmp_Compare_int.f a0_0 a1_0).bind fun t168 => ((impl_nodeOrder.f a0_1 a0_2 a1_1 a1_2).bind fun t169 => ((impl_nodeOrder.f a0_3 a0_4 a1_3 a1_4).bind fun t170 => ((cmp_Or_int.f k (([t168, t169, t170] : List Int))).bind fun t174 => (some t174))))
def impl_edgeOrder.T1 : Bool × List (List Nat × List Nat) := (true, [([], []), ([0], [0]), ([], []), ([2], [2]), ([1, 3], [1, 3]), ([], []), ([5], [5]), ([], []), ([7], [7]), ([6, 8, 4], [6, 8]), ([], []), ([10], [10]), ([], []), ([12], [12]), ([11, 13, 9], [11, 13]), ([4, 9, 14], [4, 9, 14]), ([15, 14], [15]), ([16, 16, 0, 1, 2, 3, 4, 5, 6, 7, 8, 9, 10, 11, 12, 13, 14, 15, 16], [16])])
def impl_edgeOrder.B1 : List Nat := [0, 1, 0, 4, 15, 0, 32, 0, 128, 511, 0, 1024, 0, 4096, 16383, 32767, 65535, 131071]
theorem impl_edgeOrder.tab1 : rtab .any (opsOf Try.f117 1) = impl_edgeOrder.T1 := by kernel_rfl
theorem impl_edgeOrder.bits1 : waitsOk impl_edgeOrder.T1.2 impl_edgeOrder.B1 = true := by kernel_rfl
set_option maxHeartbeats 8000000 in
set_option maxRecDepth 100000 in
theorem impl_edgeOrder.calls (k : Nat) (a0_0 : Int) (a0_1 : Int) (a0_2 : Int) (a0_3 : Int) (a0_4 : Int) (a1_0 : Int) (a1_1 : Int) (a1_2 : Int) (a1_3 : Int) (a1_4 : Int) (r : Int) (w : World) (h : impl_edgeOrder.f k a0_0 a0_1 a0_2 a0_3 a0_4 a1_0 a1_1 a1_2 a1_3 a1_4 = some r) :
  Calls Try.prog 117 #[.agg #[.int .i64 a0_0, .int .i64 a0_1, .int .i64 a0_2, .int .i64 a0_3, .int .i64 a0_4], .agg #[.int .i64 a1_0, .int .i64 a1_1, .int .i64 a1_2, .int .i64 a1_3, .int .i64 a1_4]] w fun e w' => e = .returned (.int .i64 r) ∧ Below w.heap.size w w' := by
 have hu56 := Try.underlying56
 have hu36 := Try.underlying36
 have HB := Aside0.mk (Below.refl w.heap.size w)
 have H := h; unfold impl_edgeOrder.f at H
 clear h
 replace H := Option.bind_eq_some_iff.mp H
 obtain ⟨t168, A30, H⟩ := H
 try dsimp -simprocs only at H
 have A3 := Aside0.mk A30
 clear A30
 replace H := Option.bind_eq_some_iff.mp H
 obtain ⟨t169, A40, H⟩ := H
 try dsimp -simprocs only at H
 have A4 := Aside0.mk A40
 clear A40
 replace H := Option.bind_eq_some_iff.mp H
 obtain ⟨t170, A50, H⟩ := H
 try dsimp -simprocs only at H
 have A5 := Aside0.mk A50
 clear A50
 obtain ⟨y171, hy171⟩ : ∃ y_ : List Int, y_ = (([t168, t169, t170] : List Int)) := ⟨_, rfl⟩
 replace H : ((cmp_Or_int.f k y171).bind fun t174 => (some t174)) = some r := by first | (rw [hy171]; exact H) | exact H
 have Ny171 := Aside0.mk hy171
 clear hy171
 replace H := Option.bind_eq_some_iff.mp H
 obtain ⟨t174, A60, H⟩ := H
 try dsimp -simprocs only at H
 have A6 := Aside0.mk A60
 clear A60
 obtain rfl := Option.some.inj H
 go_enter Try.func117, Try.ntmps117
 try go_wp2_with (first | ((with_reducible refine gd (N := 2) rfl ?_); refine bx 2 (cs := #[.int .i64 a0_0, .int .i64 a0_1, .int .i64 a0_2, .int .i64 a0_3, .int .i64 a0_4]) (t := 56) ?_; intro gb166 hg w7 hbox hb; have BK166 := Aside0.mk (hbox); have GW166 := gwb HB hg; replace HB := hs HB hb; clear hb hbox hg) | ((with_reducible refine gd (N := 3) rfl ?_); refine bx 3 (cs := #[.int .i64 a1_0, .int .i64 a1_1, .int .i64 a1_2, .int .i64 a1_3, .int .i64 a1_4]) (t := 56) ?_; intro gb167 hg w8 hbox hb; have BK167 := Aside0.mk (hbox); have GW167 := gwb HB hg; replace HB := hs HB hb; have NB166_167 := nq BK166 hg; have NB167_166 := nq' BK166 hg; replace BK166 := bb BK166 hb rfl; clear hb hbox hg))
 replace BK166 := bd BK166
 replace BK167 := bd BK167
 replace HB := hd HB
 refine start_ (n := 18) (S := fun w' => w'.cell? ⟨gb166, 0, none⟩ = some (.int .i64 a0_0) ∧ w'.cell? ⟨gb166, 1, none⟩ = some (.int .i64 a0_1) ∧ w'.cell? ⟨gb166, 2, none⟩ = some (.int .i64 a0_2) ∧ w'.cell? ⟨gb166, 3, none⟩ = some (.int .i64 a0_3) ∧ w'.cell? ⟨gb166, 4, none⟩ = some (.int .i64 a0_4) ∧ w'.cell? ⟨gb167, 0, none⟩ = some (.int .i64 a1_0) ∧ w'.cell? ⟨gb167, 1, none⟩ = some (.int .i64 a1_1) ∧ w'.cell? ⟨gb167, 2, none⟩ = some (.int .i64 a1_2) ∧ w'.cell? ⟨gb167, 3, none⟩ = some (.int .i64 a1_3) ∧ w'.cell? ⟨gb167, 4, none⟩ = some (.int .i64 a1_4)) (ds := []) #[false, false, false, false, false, false, false, false, false, false, false, false, false, false, false, false, false, false] (by kernel_rfl) rfl rfl ⟨(blk_cell BK166.out 0).trans rfl, (blk_cell BK166.out 1).trans rfl, (blk_cell BK166.out 2).trans rfl, (blk_cell BK166.out 3).trans rfl, (blk_cell BK166.out 4).trans rfl, (blk_cell BK167.out 0).trans rfl, (blk_cell BK167.out 1).trans rfl, (blk_cell BK167.out 2).trans rfl, (blk_cell BK167.out 3).trans rfl, (blk_cell BK167.out 4).trans rfl⟩ (fun hHeld => ?_); refine with_tabW impl_edgeOrder.tab1 impl_edgeOrder.bits1 (fun HT_ HW_ => ?_)
 generalize w8.drew = w9 at BK166 BK167 HB hHeld ⊢
 refine pu 0 5 ?_
 refine pu 2 7 ?_
 refine pu 5 10 ?_
 refine pu 7 12 ?_
 refine pu 10 15 ?_
 refine pu 12 17 ?_
 refine tk 1 6 ?_
 refine tk 3 8 ?_
 refine tk 6 11 ?_
 refine tk 8 13 ?_
 refine tk 11 16 ?_
 refine tk 13 18 ?_
 refine one_ (i := 4) (N := some 9) #[true, true, true, true, true, true, true, true, true, false, true, true, true, true, false, false, false, false] rfl rfl (one_of HT_.out (by kernel_rfl)) (by decide) (fun K hK => ?_)
 refine gs Try.func138 #[.int .i64 a0_0, .int .i64 a1_0] ?_
 with_reducible refine (cmp_Compare_int.calls a0_0 a1_0 t168 _ A3.out).mono ?_
 rintro e w' ⟨rfl, ⟨nd, rfl⟩⟩
 refine ⟨_, rfl, ?_⟩
 refine hK.out _ _ ⟨(blk_cell BK166.out 0).trans rfl, (blk_cell BK166.out 1).trans rfl, (blk_cell BK166.out 2).trans rfl, (blk_cell BK166.out 3).trans rfl, (blk_cell BK166.out 4).trans rfl, (blk_cell BK167.out 0).trans rfl, (blk_cell BK167.out 1).trans rfl, (blk_cell BK167.out 2).trans rfl, (blk_cell BK167.out 3).trans rfl, (blk_cell BK167.out 4).trans rfl⟩ (fun hHeld => ?_)
 clear hK K
 refine nrm 9 ?_
 refine one_ (i := 9) (N := some 14) #[true, true, true, true, true, true, true, true, true, true, true, true, true, true, false, false, false, false] rfl rfl (one_of HT_.out (by kernel_rfl)) (by decide) (fun K hK => ?_)
 refine gs Try.func105 #[.agg #[.int .i64 a0_1, .int .i64 a0_2], .agg #[.int .i64 a1_1, .int .i64 a1_2]] ?_
 with_reducible refine (impl_nodeOrder.calls a0_1 a0_2 a1_1 a1_2 t169 _ A4.out).mono ?_
 rintro e w10 ⟨rfl, hb⟩
 refine ⟨_, rfl, ?_⟩
 replace BK166 := bb BK166 hb rfl
 replace BK167 := bb BK167 hb rfl
 replace HB := hs HB hb
 (try clear hb)
 (try clear hb2)
 (try clear hk)
 (try clear hi)
 refine hK.out _ _ ⟨(blk_cell BK166.out 0).trans rfl, (blk_cell BK166.out 1).trans rfl, (blk_cell BK166.out 2).trans rfl, (blk_cell BK166.out 3).trans rfl, (blk_cell BK166.out 4).trans rfl, (blk_cell BK167.out 0).trans rfl, (blk_cell BK167.out 1).trans rfl, (blk_cell BK167.out 2).trans rfl, (blk_cell BK167.out 3).trans rfl, (blk_cell BK167.out 4).trans rfl⟩ (fun hHeld => ?_)
 clear hK K
 refine nrm 14 ?_
 refine one_ (i := 14) (N := some 19) #[true, true, true, true, true, true, true, true, true, true, true, true, true, true, true, false, false, false] rfl rfl (one_of HT_.out (by kernel_rfl)) (by decide) (fun K hK => ?_)
 refine gs Try.func105 #[.agg #[.int .i64 a0_3, .int .i64 a0_4], .agg #[.int .i64 a1_3, .int .i64 a1_4]] ?_
 with_reducible refine (impl_nodeOrder.calls a0_3 a0_4 a1_3 a1_4 t170 _ A5.out).mono ?_
 rintro e w11 ⟨rfl, hb⟩
 refine ⟨_, rfl, ?_⟩
 replace BK166 := bb BK166 hb rfl
 replace BK167 := bb BK167 hb rfl
 replace HB := hs HB hb
 (try clear hb)
 (try clear hb2)
 (try clear hk)
 (try clear hi)
 refine hK.out _ _ ⟨(blk_cell BK166.out 0).trans rfl, (blk_cell BK166.out 1).trans rfl, (blk_cell BK166.out 2).trans rfl, (blk_cell BK166.out 3).trans rfl, (blk_cell BK166.out 4).trans rfl, (blk_cell BK167.out 0).trans rfl, (blk_cell BK167.out 1).trans rfl, (blk_cell BK167.out 2).trans rfl, (blk_cell BK167.out 3).trans rfl, (blk_cell BK167.out 4).trans rfl⟩ (fun hHeld => ?_)
 clear hK K
 refine nrm 19 ?_
 refine one_ (i := 15) (N := some 20) #[true, true, true, true, true, true, true, true, true, true, true, true, true, true, true, true, false, false] rfl rfl (one_of HT_.out (by kernel_rfl)) (by decide) (fun K hK => ?_)
 refine Kd.R_lit_step (Kd.int .i64) _ 3 ?hg (N := 20) ?hd (xs := ([t168, t169, t170] : List Int)) (inner := [.int .i64 t168, .int .i64 t169, .int .i64 t170]) (ok := fun _ => True) (okp := fun _ => True) ?hr ?hp (fun _ hk => hk) trivial (Below.refl _ _) (Nat.le_refl _) (by simp) ?_; (case hd => rfl); (case hg => rfl); (case hr => first | (go_simp; done) | (go_simp; rfl)); (case hp => exact (Reps.one (show Kd.M (Kd.int .i64) _ _ _ t168 [.int .i64 t168] from rfl) (Reps.one (show Kd.M (Kd.int .i64) _ _ _ t169 [.int .i64 t169] from rfl) (Reps.one (show Kd.M (Kd.int .i64) _ _ _ t170 [.int .i64 t170] from rfl) (Reps.none _ _)))))
 intro v172 w12 ho13 hb hg_ hnew_
 clear hg_ hnew_
 (first | rw [← Ny171.out] at ho13 | (simp only [Int.reduceToNat] at ho13; rw [← Ny171.out] at ho13))
 have HO173 := Aside0.mk (Kd.R_lower ho13 (below_size (bs HB.out)))
 replace BK166 := bb BK166 hb rfl
 replace BK167 := bb BK167 hb rfl
 replace HB := hs HB hb
 clear hb ho13
 obtain ⟨Ao14, co14, eo14⟩ := Kd.R_slice HO173.out
 (first | subst eo14 | (injection eo14 with f1_ f2_ f3_; have f4_ := f1_.symm; have f5_ := f3_.symm; clear f1_ f2_ f3_; subst f4_; subst f5_))
 refine hK.out _ _ ⟨(blk_cell BK166.out 0).trans rfl, (blk_cell BK166.out 1).trans rfl, (blk_cell BK166.out 2).trans rfl, (blk_cell BK166.out 3).trans rfl, (blk_cell BK166.out 4).trans rfl, (blk_cell BK167.out 0).trans rfl, (blk_cell BK167.out 1).trans rfl, (blk_cell BK167.out 2).trans rfl, (blk_cell BK167.out 3).trans rfl, (blk_cell BK167.out 4).trans rfl⟩ (fun hHeld => ?_)
 clear hK K
 refine nrm 20 ?_
 refine one_ (i := 16) (N := some 21) #[true, true, true, true, true, true, true, true, true, true, true, true, true, true, true, true, true, false] rfl rfl (one_of HT_.out (by kernel_rfl)) (by decide) (fun K hK => ?_)
 refine gs Try.func142 #[.slice Ao14 y171.length co14] ?_
 with_reducible refine (cmp_Or_int.calls k _ _ y171 t174 _ ?side1 ?side2 A6.out).mono ?_
 (case side1 => repeat (first | exact (Kd.R_reads' HO173.out).2.2 | (with_reducible refine Kd.C_alloc ?_ _) | (with_reducible refine Kd.C_drewN ?_ _) | (with_reducible refine Kd.C_drew ?_)))
 (case side2 => exact (Kd.R_reads' HO173.out).2.1)
 rintro e w' ⟨rfl, ⟨nd, rfl⟩⟩
 refine ⟨_, rfl, ?_⟩
 refine hK.out _ _ ⟨(blk_cell BK166.out 0).trans rfl, (blk_cell BK166.out 1).trans rfl, (blk_cell BK166.out 2).trans rfl, (blk_cell BK166.out 3).trans rfl, (blk_cell BK166.out 4).trans rfl, (blk_cell BK167.out 0).trans rfl, (blk_cell BK167.out 1).trans rfl, (blk_cell BK167.out 2).trans rfl, (blk_cell BK167.out 3).trans rfl, (blk_cell BK167.out 4).trans rfl⟩ (fun hHeld => ?_)
 clear hK K
 refine nrm 21 ?_
 refine pu 17 4 ?_
 refine done_ (done_of HT_.out (by kernel_rfl)) ?_
 try go_wp2
 go_ret
 exact ⟨by first | rfl | (simp [*, errW_none, errW_some] <;> rfl), bs HB.out⟩

/-! ### impl_Node_110: function 110 -/
/-- The sign of a comparison of two nodes. -/
def oN (a b c d : Int) : Int := if Cd a b < Cd c d then -1 else if Cd a b > Cd c d then 1 else 0
theorem iO (a b c d : Int) : impl_nodeOrder.f a b c d = some (oN a b c d) := by
  unfold impl_nodeOrder.f cmp_Compare_int.f cmp_isNaN_int.f oN
  simp only [iC, Option.bind_some, bne_self_eq_false, Bool.false_eq_true, if_false]
  split
  · rfl
  · split <;> rfl
theorem half_u {x y : Int} (h : 0 ≤ x ∧ 0 ≤ y ∧ x ≤ 9223372036854775807 ∧ y ≤ 9223372036854775807) : wrap64 (IntKind.u64.wrap (wrap64 (x + y)) / 2) = (x + y) / 2 := by
  have e : IntKind.u64.wrap (wrap64 (x + y)) = x + y := by
    simp only [IntKind.wrap, IntKind.signed, IntKind.bits, wrap64]
    simp
    omega
  rw [e]; unfold wrap64; omega
def impl_bsf.l0 : Nat → List S36 → Int → Int → Int → Int → Option (Int × Bool)
  | 0, _, _, _, _, _ => none
  | k + 1, xs, a, b, i, j => if i < j then (if oN (rd_T36 xs ((i + j) / 2)).f0 (rd_T36 xs ((i + j) / 2)).f1 a b < 0 then impl_bsf.l0 k xs a b ((i + j) / 2 + 1) j else impl_bsf.l0 k xs a b i ((i + j) / 2)) else
    some (i, if i < (xs.length : Int) then oN (rd_T36 xs i).f0 (rd_T36 xs i).f1 a b == 0 else false)
def impl_bsf.f (k : Nat) (xs : List S36) (a b : Int) : Option (Int × Bool) := impl_bsf.l0 k xs a b 0 xs.length
set_option maxHeartbeats 8000000 in
set_option maxRecDepth 100000 in
theorem impl_bsf.calls (k : Nat) (A0 : Option Addr) (c0 : Nat) (l0 : List S36) (a1_0 a1_1 : Int) (r1 : Int) (r2 : Bool) (w : World) (hr0 : Kd.C k36 w A0 l0.length l0) (hc0 : l0.length ≤ c0) (h : impl_bsf.f k l0 a1_0 a1_1 = some (r1, r2)) :
    Calls Try.prog 110 #[.slice A0 l0.length c0, .agg #[.int .i64 a1_0, .int .i64 a1_1], .func (.func 105) #[] #[]] w fun e w' => e = .returned (.tuple #[.int .i64 r1, .bool r2]) ∧ Below w.heap.size w w' := by
  have hu36 := Try.underlying36
  have HR0 := Aside0.mk hr0
  have HC0 := Aside0.mk hc0
  have HM0 := Aside0.mk hr0.2.1
  clear hr0 hc0
  have HB := Aside0.mk (Below.refl w.heap.size w)
  have H' := Aside0.mk (show impl_bsf.l0 k l0 a1_0 a1_1 0 l0.length = some (r1, r2) from h)
  clear h
  go_enter Try.func110, Try.ntmps110
  go_wp2_with (first | ((with_reducible refine gate_dst (N := 4) rfl ?_); refine box_event ?hg (N := 4) ?hd (cs := #[.int .i64 a1_0, .int .i64 a1_1]) (t := 36) ?hr ?_; (case hd => rfl); (case hg => rfl); (case hr => first | (go_simp; done) | (go_simp; rfl)); intro gn hg w3 hbox hb; have n0_ := Aside0.mk (below_step HB.out hb); have n1_ := Aside0.mk hbox; have n2_ := Aside0.mk ((by rw [hg]; exact (below_size (by repeat (first | (with_reducible first | exact HB.out | apply below_alloc | apply pw_below_drewN | apply below_drew1) | exact HB.out))) : w.heap.size ≤ gn)); clear HB; have HB := n0_; have BN := n1_; have GN := n2_; clear n0_ n1_ n2_ hg hb hbox))
  go_loopg [9, 10] k (fun kq v9 v10 w' => ∃ (x9 x10 : Int), v9 = .int .i64 x9 ∧ v10 = .int .i64 x10 ∧ Aside0 (impl_bsf.l0 kq l0 a1_0 a1_1 x9 x10 = some (r1, r2)) ∧ Aside0 (0 ≤ x9 ∧ x9 ≤ x10 ∧ x10 ≤ l0.length) ∧ Aside0 (kq ≤ k) ∧ Aside0 (w'.heap[gn]? = some (.cells #[.int .i64 a1_0, .int .i64 a1_1] 36 (0, 0))) ∧ Aside0 (Below w.heap.size w w'))
  case atStart => exact ⟨0, l0.length, (by first | rfl | (simp; done) | (simp [*]; done)), (by first | rfl | (simp; done) | (simp [*]; done)), H', ⟨by omega⟩, ⟨Nat.le_refl _⟩, ⟨by (with_reducible repeat (first | refine blk_drewN ?_ _ | refine blk_drew ?_ | refine blk_alloc ?_ _)); exact BN.out⟩, ⟨by repeat (first | (with_reducible first | exact HB.out | apply below_alloc | apply pw_below_drewN | apply below_drew1) | exact HB.out)⟩⟩
  case round =>
    clear H'
    obtain ⟨x9, x10, rfl, rfl, HA, HX, HK1, BN, HB⟩ := hrel
    cases gk with
    | zero => exact absurd HA.out (by simp [impl_bsf.l0])
    | succ k1 =>
      have H := HA.out
      clear HA
      simp only [impl_bsf.l0] at H
      by_cases c1 : x9 < x10
      · rw [if_pos c1] at H
        have c1b0 : decide (x9 < x10) = true := decide_eq_true c1
        have hX := HX.out
        have hM := HM0.out
        have hh := half_u (x := x9) (y := x10) (by omega)
        have hq0 : 0 ≤ (x9 + x10) / 2 := by omega
        have hq1 : (x9 + x10) / 2 < x10 := by omega
        have hq2 : x9 ≤ (x9 + x10) / 2 := by omega
        clear c1 hX hM
        go_wp2
        rw [hh]
        clear hh
        generalize (x9 + x10) / 2 = q at H hq0 hq1 hq2 ⊢
        have p0 := hq0
        have q0 : q < (l0.length : Int) := by have := HX.out; omega
        obtain ⟨ad, ea, hx0, hx1⟩ := at_T36 HR0.out q p0 q0
        cases ea
        replace hx0 := (HB.out.cell (World.block_lt_of_cell? w _ hx0)).trans hx0
        replace hx1 := (HB.out.cell (World.block_lt_of_cell? w _ hx1)).trans hx1
        replace p0 := eq_true p0
        replace q0 := eq_true q0
        have HQ := Aside0.mk (show 0 ≤ q ∧ q < x10 ∧ x9 ≤ q from ⟨hq0, hq1, hq2⟩)
        clear hq0 hq1 hq2
        generalize (rd_T36 l0 q).f0 = f0 at H hx0 hx1
        generalize (rd_T36 l0 q).f1 = f1 at H hx0 hx1
        refine wp_region_bel (by kernel_rfl) (by kernel_rfl) ?_
        have n0_ := Aside0.mk (blk_drew BN.out)
        have n1_ := Aside0.mk (below_drew1 HB.out)
        clear BN HB
        have BN := n0_
        have HB := n1_
        clear n0_ n1_
        have hx0' : wr.drew.cell? (ad.add (q.toNat * 2)) = some (.int .i64 f0) := hx0
        have hx1' : wr.drew.cell? ⟨(ad.add (q.toNat * 2)).block, (ad.add (q.toNat * 2)).off + 1, none⟩ = some (.int .i64 f1) := hx1
        clear hx0 hx1
        generalize wr.drew = w5 at BN HB hx0' hx1' ⊢
        have hz0 : ∀ p : Bel w5, p.v.cell? (ad.add (q.toNat * 2)) = some (.int .i64 f0) := fun p => cell_bel hx0' p
        have hz1 : ∀ p : Bel w5, p.v.cell? ⟨(ad.add (q.toNat * 2)).block, (ad.add (q.toNat * 2)).off + 1, none⟩ = some (.int .i64 f1) := fun p => cell_bel hx1' p
        have hz2 : ∀ p : Bel w5, p.v.cell? ⟨gn, 0, none⟩ = some (.int .i64 a1_0) := fun p => cell_bel ((blk_cell BN.out 0).trans rfl) p
        have hz3 : ∀ p : Bel w5, p.v.cell? ⟨gn, 1, none⟩ = some (.int .i64 a1_1) := fun p => cell_bel ((blk_cell BN.out 1).trans rfl) p
        clear hx0' hx1'
        by_cases c2 : oN f0 f1 a1_0 a1_1 < 0
        · rw [if_pos c2] at H
          have c2b0 : decide (oN f0 f1 a1_0 a1_1 < 0) = true := decide_eq_true c2
          clear c2
          have H' := Aside0.mk H
          clear H
          repeat (go_big_quiet_step (with_reducible exact calls_bel (impl_nodeOrder.calls f0 f1 a1_0 a1_1 _ _ (iO f0 f1 a1_0 a1_1))))
          refine wpQuiet_nil ?_
          intro _ hw'
          obtain ⟨⟨w6, hb⟩, hw''⟩ := hw'
          subst hw''
          clear hz0 hz1 hz2 hz3
          have n0_ := Aside0.mk (blk_below BN.out hb)
          have n1_ := Aside0.mk (below_step HB.out hb)
          clear BN HB hb
          have BN := n0_
          have HB := n1_
          clear n0_ n1_
          go_wp2
          go_roundg k1
          case measure => have := HK1.out; omega
          case rel => exact ⟨q + 1, x10, (by first | rfl | (simp; done) | (simp [*]; done) | (simp; unfold wrap64; have := HQ.out; have := HX.out; have := HM0.out; omega)), (by first | rfl | (simp; done) | (simp [*]; done)), H', ⟨by have := HQ.out; have := HX.out; omega⟩, ⟨by have := HK1.out; omega⟩, ⟨by (with_reducible repeat (first | refine blk_drewN ?_ _ | refine blk_drew ?_ | refine blk_alloc ?_ _)); exact BN.out⟩, ⟨by repeat (first | (with_reducible first | exact HB.out | apply below_alloc | apply pw_below_drewN | apply below_drew1) | exact HB.out)⟩⟩
        · rw [if_neg c2] at H
          have c2b0 : decide (oN f0 f1 a1_0 a1_1 < 0) = false := decide_eq_false c2
          clear c2
          have H' := Aside0.mk H
          clear H
          repeat (go_big_quiet_step (with_reducible exact calls_bel (impl_nodeOrder.calls f0 f1 a1_0 a1_1 _ _ (iO f0 f1 a1_0 a1_1))))
          refine wpQuiet_nil ?_
          intro _ hw'
          obtain ⟨⟨w6, hb⟩, hw''⟩ := hw'
          subst hw''
          clear hz0 hz1 hz2 hz3
          have n0_ := Aside0.mk (blk_below BN.out hb)
          have n1_ := Aside0.mk (below_step HB.out hb)
          clear BN HB hb
          have BN := n0_
          have HB := n1_
          clear n0_ n1_
          go_wp2
          go_roundg k1
          case measure => have := HK1.out; omega
          case rel => exact ⟨x9, q, (by first | rfl | (simp; done) | (simp [*]; done)), (by first | rfl | (simp; done) | (simp [*]; done)), H', ⟨by have := HQ.out; have := HX.out; omega⟩, ⟨by have := HK1.out; omega⟩, ⟨by (with_reducible repeat (first | refine blk_drewN ?_ _ | refine blk_drew ?_ | refine blk_alloc ?_ _)); exact BN.out⟩, ⟨by repeat (first | (with_reducible first | exact HB.out | apply below_alloc | apply pw_below_drewN | apply below_drew1) | exact HB.out)⟩⟩
      · rw [if_neg c1] at H
        have c1b0 : decide (x9 < x10) = false := decide_eq_false c1
        clear c1
        by_cases c3 : x9 < (l0.length : Int)
        · rw [if_pos c3] at H
          have c3b0 : decide (x9 < (l0.length : Int)) = true := decide_eq_true c3
          have p0 : 0 ≤ x9 := HX.out.1
          have q0 : x9 < (l0.length : Int) := c3
          obtain ⟨ad, ea, hx0, hx1⟩ := at_T36 HR0.out x9 p0 q0
          cases ea
          replace hx0 := (HB.out.cell (World.block_lt_of_cell? w _ hx0)).trans hx0
          replace hx1 := (HB.out.cell (World.block_lt_of_cell? w _ hx1)).trans hx1
          replace p0 := eq_true p0
          replace q0 := eq_true q0
          clear c3
          generalize (rd_T36 l0 x9).f0 = f0 at H hx0 hx1
          generalize (rd_T36 l0 x9).f1 = f1 at H hx0 hx1
          simp only [Option.some.injEq, Prod.mk.injEq] at H
          obtain ⟨rfl, rfl⟩ := H
          go_wp2
          refine wp_region_bel (by kernel_rfl) (by kernel_rfl) ?_
          have n0_ := Aside0.mk (blk_drew BN.out)
          have n1_ := Aside0.mk (below_drew1 HB.out)
          clear BN HB
          have BN := n0_
          have HB := n1_
          clear n0_ n1_
          have hx0' : wr.drew.cell? (ad.add (x9.toNat * 2)) = some (.int .i64 f0) := hx0
          have hx1' : wr.drew.cell? ⟨(ad.add (x9.toNat * 2)).block, (ad.add (x9.toNat * 2)).off + 1, none⟩ = some (.int .i64 f1) := hx1
          clear hx0 hx1
          generalize wr.drew = w5 at BN HB hx0' hx1' ⊢
          have hz0 : ∀ p : Bel w5, p.v.cell? (ad.add (x9.toNat * 2)) = some (.int .i64 f0) := fun p => cell_bel hx0' p
          have hz1 : ∀ p : Bel w5, p.v.cell? ⟨(ad.add (x9.toNat * 2)).block, (ad.add (x9.toNat * 2)).off + 1, none⟩ = some (.int .i64 f1) := fun p => cell_bel hx1' p
          have hz2 : ∀ p : Bel w5, p.v.cell? ⟨gn, 0, none⟩ = some (.int .i64 a1_0) := fun p => cell_bel ((blk_cell BN.out 0).trans rfl) p
          have hz3 : ∀ p : Bel w5, p.v.cell? ⟨gn, 1, none⟩ = some (.int .i64 a1_1) := fun p => cell_bel ((blk_cell BN.out 1).trans rfl) p
          clear hx0' hx1'
          repeat (go_big_quiet_step (with_reducible exact calls_bel (impl_nodeOrder.calls f0 f1 a1_0 a1_1 _ _ (iO f0 f1 a1_0 a1_1))))
          refine wpQuiet_nil ?_
          intro _ hw'
          obtain ⟨⟨w6, hb⟩, hw''⟩ := hw'
          subst hw''
          go_wp2
          go_ret2
          exact ⟨by first | rfl | (simp; done) | (simp [*]; done), below_step HB.out hb⟩
        · rw [if_neg c3] at H
          simp only [Option.some.injEq, Prod.mk.injEq] at H
          obtain ⟨rfl, rfl⟩ := H
          have c3b0 : decide (x9 < (l0.length : Int)) = false := decide_eq_false c3
          clear c3
          go_wp2
          refine wp_region_bel (by kernel_rfl) (by kernel_rfl) ?_
          have n1_ := Aside0.mk (below_drew1 HB.out)
          clear HB
          have HB := n1_
          clear n1_
          generalize wr.drew = w5 at HB ⊢
          repeat (go_big_quiet_step (fail))
          refine wpQuiet_nil ?_
          intro _ hw'
          obtain ⟨⟨w6, hb⟩, hw''⟩ := hw'
          subst hw''
          go_wp2
          go_ret2
          exact ⟨by first | rfl | (simp; done) | (simp [*]; done), below_step HB.out hb⟩

/-! ### impl_nodeThere: function 118 -/
def impl_nodeThere.f (k : Nat) (l0 : List S36) (a1_0 a1_1 : Int) : Option Bool := (impl_bsf.f k l0 a1_0 a1_1).bind fun b => some b.2
set_option maxHeartbeats 8000000 in
set_option maxRecDepth 100000 in
theorem impl_nodeThere.calls (k : Nat) (A0 : Option Addr) (c0 : Nat) (l0 : List S36) (a1_0 a1_1 : Int) (r : Bool) (w : World) (hr0 : Kd.C k36 w A0 l0.length l0) (hc0 : l0.length ≤ c0) (h : impl_nodeThere.f k l0 a1_0 a1_1 = some r) :
    Calls Try.prog 118 #[.slice A0 l0.length c0, .agg #[.int .i64 a1_0, .int .i64 a1_1]] w fun e w' => e = .returned (.bool r) ∧ Below w.heap.size w w' := by
  have hu36 := Try.underlying36
  have HR0 := Aside0.mk hr0
  have HC0 := Aside0.mk hc0
  clear hr0 hc0
  have HB := Aside0.mk (Below.refl w.heap.size w)
  obtain ⟨⟨q1, q2⟩, hq, h⟩ := Option.bind_eq_some_iff.1 h
  obtain rfl := Option.some.inj h
  have HQ := Aside0.mk hq
  clear hq h
  go_enter Try.func118, Try.ntmps118
  go_wp2_with (first | ((with_reducible refine gate_dst (N := 3) rfl ?_); refine box_event ?hg (N := 3) ?hd (cs := #[.int .i64 a1_0, .int .i64 a1_1]) (t := 36) ?hr ?_; (case hd => rfl); (case hg => rfl); (case hr => first | (go_simp; done) | (go_simp; rfl)); intro gn hg w3 hbox hb; have n0_ := Aside0.mk (below_step HB.out hb); have n1_ := Aside0.mk hbox; clear HB; have HB := n0_; have BN := n1_; clear n0_ n1_ hg hb hbox; have hcz0 : w3.cell? ⟨gn, 0, none⟩ = some (.int .i64 a1_0) := (blk_cell BN.out 0).trans rfl; have hcz1 : w3.cell? ⟨gn, 1, none⟩ = some (.int .i64 a1_1) := (blk_cell BN.out 1).trans rfl))
  refine (impl_bsf.calls k _ _ l0 a1_0 a1_1 q1 q2 _ ?side1 HC0.out HQ.out).mono ?_
  case side1 => repeat (first | exact (Kd.C_below HR0.out HB.out) | (with_reducible refine Kd.C_alloc ?_ _) | (with_reducible refine Kd.C_drewN ?_ _) | (with_reducible refine Kd.C_drew ?_))
  rintro e w5 ⟨rfl, hb⟩
  have n0_ := Aside0.mk (below_step (by repeat (first | (with_reducible first | exact HB.out | apply below_alloc | apply pw_below_drewN | apply below_drew1) | exact HB.out)) hb)
  clear HB hb BN hcz0 hcz1
  have HB := n0_
  clear n0_
  go_wp2
  go_ret
  exact ⟨by first | rfl | (simp; done) | (simp [*]; done), by repeat (first | (with_reducible first | exact HB.out | apply below_alloc | apply pw_below_drewN | apply below_drew1) | exact HB.out)⟩

end Go.Proofs.Ytohmemckdogljaa.QFnGraphEmpty
