/- Contracts of the Go functions that this law reaches: each does what its plain Lean function says. No condition. -/
import Derived.Test.YtohmemckdogljaaQFnExactGraphViewx0
import Derived.Test.YtohmemckdogljaaQFnExactGraphViewx6
namespace Go.Proofs.Ytohmemckdogljaa.QFnExactGraphView
open Go.RowKit Go.Proofs.YtohmemckdogljaaW.PrintWords Go.Proofs.YtohmemckdogljaaW.PrintLast Go.Proofs.YtohmemckdogljaaW.PrintMore Go.Proofs.Ytohmemckdogljaa.Bl
attribute [local go_sem] max2_int min2_int max_two min_two max_three min_three max_four min_four   -- for this text's walks alone
set_option linter.unusedVariables false
set_option linter.unusedSimpArgs false

/-! ### impl_LabelUnder: function 47 -/
def impl_LabelUnder.f (a0 : Int) (a1 : Int) : Option (Bool) := (impl_LabelOk.f a0).bind fun t218 => (if t218 = true then ((impl_LabelOk.f a1).bind fun t219 => (if t219 = true then ((impl_letters_under.f ((a0) % 256) ((a1) % 256)).bind fun t220 => (some t220)) else (some false))) else (some false))
set_option maxHeartbeats 8000000 in
set_option maxRecDepth 100000 in
theorem impl_LabelUnder.calls (a0 : Int) (a1 : Int) (r : Bool) (w : World) (h : impl_LabelUnder.f a0 a1 = some r) :
  Calls Try.prog 47 #[.int .i64 a0, .int .i64 a1] w fun e w' => e = .returned (.bool r) ∧ Drawn0 w w' := by
 have H : ((impl_LabelOk.f a0).bind fun t218 => (if t218 = true then ((impl_LabelOk.f a1).bind fun t219 => (if t219 = true then ((impl_letters_under.f ((a0) % 256) ((a1) % 256)).bind fun t220 => (some t220)) else (some false))) else (some false))) = some r := h
 clear h
 replace H := Option.bind_eq_some_iff.mp H
 obtain ⟨t218, A30, H⟩ := H
 replace H : (if t218 = true then ((impl_LabelOk.f a1).bind fun t219 => (if t219 = true then ((impl_letters_under.f ((a0) % 256) ((a1) % 256)).bind fun t220 => (some t220)) else (some false))) else (some false)) = some r := H
 have A3 := Aside0.mk A30
 clear A30
 by_cases c4 : t218 = true
 ·subst c4
  have H1 : ((impl_LabelOk.f a1).bind fun t219 => (if t219 = true then ((impl_letters_under.f ((a0) % 256) ((a1) % 256)).bind fun t220 => (some t220)) else (some false))) = some r := by rw [if_pos rfl] at H; exact H
  clear H
  have H := H1
  clear H1
  replace H := Option.bind_eq_some_iff.mp H
  obtain ⟨t219, A50, H⟩ := H
  replace H : (if t219 = true then ((impl_letters_under.f ((a0) % 256) ((a1) % 256)).bind fun t220 => (some t220)) else (some false)) = some r := H
  have A5 := Aside0.mk A50
  clear A50
  by_cases c6 : t219 = true
  ·subst c6
   have H1 : ((impl_letters_under.f ((a0) % 256) ((a1) % 256)).bind fun t220 => (some t220)) = some r := by rw [if_pos rfl] at H; exact H
   clear H
   have H := H1
   clear H1
   replace H := Option.bind_eq_some_iff.mp H
   obtain ⟨t220, A70, H⟩ := H
   replace H : (some t220) = some r := H
   have A7 := Aside0.mk A70
   clear A70
   obtain rfl := Option.some.inj H
   go_enter Try.func47, Try.ntmps47
   go_wp2_with (first | ((with_reducible refine gate_callee (f := 46) rfl ?_); refine goesL_ (some 6) rfl rfl Try.func46 (by kernel_rfl) rfl #[.int .i64 a0] rfl (by (try simp only [List.map_toArray, List.map_cons, List.map_nil]); first | done | rfl | (simp only [List.length_drop, List.length_take]; rfl)) ?_; (with_reducible refine (impl_LabelOk.calls a0 true _ A3.out).mono ?_); rintro e w' ⟨rfl, ⟨nd, rfl⟩⟩; refine ⟨_, rfl, ?_⟩) | (go_at_call 46; (with_reducible refine (impl_LabelOk.calls a1 true _ A5.out).mono ?_); rintro e w' ⟨rfl, ⟨nd, rfl⟩⟩) | (go_at_call 95; (with_reducible refine (impl_letters_under.calls ((a0) % 256) ((a1) % 256) t220 _ A7.out).mono ?_); rintro e w' ⟨rfl, ⟨nd, rfl⟩⟩))
   go_ret
   exact ⟨by first | rfl | (simp; done) | (simp [*]; done), by repeat (first | exact Drawn0.refl _ | apply Drawn0.step)⟩
  ·replace c6 := Bool.eq_false_iff.mpr c6
   subst c6
   have H1 : (some false) = some r := by rw [if_neg (show ¬ (false = true) by decide)] at H; exact H
   clear H
   have H := H1
   clear H1
   obtain rfl := Option.some.inj H
   go_enter Try.func47, Try.ntmps47
   go_wp2_with (first | ((with_reducible refine gate_callee (f := 46) rfl ?_); refine goesL_ (some 6) rfl rfl Try.func46 (by kernel_rfl) rfl #[.int .i64 a0] rfl (by (try simp only [List.map_toArray, List.map_cons, List.map_nil]); first | done | rfl | (simp only [List.length_drop, List.length_take]; rfl)) ?_; (with_reducible refine (impl_LabelOk.calls a0 true _ A3.out).mono ?_); rintro e w' ⟨rfl, ⟨nd, rfl⟩⟩; refine ⟨_, rfl, ?_⟩) | (go_at_call 46; (with_reducible refine (impl_LabelOk.calls a1 false _ A5.out).mono ?_); rintro e w' ⟨rfl, ⟨nd, rfl⟩⟩))
   go_ret
   exact ⟨by first | rfl | (simp; done) | (simp [*]; done), by repeat (first | exact Drawn0.refl _ | apply Drawn0.step)⟩
 ·replace c4 := Bool.eq_false_iff.mpr c4
  subst c4
  have H1 : (some false) = some r := by rw [if_neg (show ¬ (false = true) by decide)] at H; exact H
  clear H
  have H := H1
  clear H1
  obtain rfl := Option.some.inj H
  go_enter Try.func47, Try.ntmps47
  go_wp2_with (first | ((with_reducible refine gate_callee (f := 46) rfl ?_); refine goesL_ (some 6) rfl rfl Try.func46 (by kernel_rfl) rfl #[.int .i64 a0] rfl (by (try simp only [List.map_toArray, List.map_cons, List.map_nil]); first | done | rfl | (simp only [List.length_drop, List.length_take]; rfl)) ?_; (with_reducible refine (impl_LabelOk.calls a0 false _ A3.out).mono ?_); rintro e w' ⟨rfl, ⟨nd, rfl⟩⟩; refine ⟨_, rfl, ?_⟩))
  go_ret
  exact ⟨by first | rfl | (simp; done) | (simp [*]; done), by repeat (first | exact Drawn0.refl _ | apply Drawn0.step)⟩

/-! ### impl_NodeOk: function 92 -/
def impl_NodeOk.f (a0_0 : Int) (a0_1 : Int) : Option (Bool) := (impl_LabelOk.f a0_0).bind fun t222 => (if t222 = true then (if 0 ≤ a0_1 then (some (decide (a0_1 ≤ 40))) else (some false)) else (some false))
set_option maxHeartbeats 8000000 in
set_option maxRecDepth 100000 in
theorem impl_NodeOk.calls (a0_0 : Int) (a0_1 : Int) (r : Bool) (w : World) (h : impl_NodeOk.f a0_0 a0_1 = some r) :
  Calls Try.prog 92 #[.agg #[.int .i64 a0_0, .int .i64 a0_1]] w fun e w' => e = .returned (.bool r) ∧ Below w.heap.size w w' := by
 have hu36 := Try.underlying36
 have HB := Aside0.mk (Below.refl w.heap.size w)
 have H : ((impl_LabelOk.f a0_0).bind fun t222 => (if t222 = true then (if 0 ≤ a0_1 then (some (decide (a0_1 ≤ 40))) else (some false)) else (some false))) = some r := h
 clear h
 replace H := Option.bind_eq_some_iff.mp H
 obtain ⟨t222, A20, H⟩ := H
 replace H : (if t222 = true then (if 0 ≤ a0_1 then (some (decide (a0_1 ≤ 40))) else (some false)) else (some false)) = some r := H
 have A2 := Aside0.mk A20
 clear A20
 by_cases c3 : t222 = true
 ·subst c3
  have H1 : (if 0 ≤ a0_1 then (some (decide (a0_1 ≤ 40))) else (some false)) = some r := by rw [if_pos rfl] at H; exact H
  clear H
  have H := H1
  clear H1
  by_cases c4 : 0 ≤ a0_1
  ·rw [if_pos c4] at H
   have c4b0 : decide (0 ≤ a0_1) = true := decide_eq_true c4
   clear c4
   obtain rfl := Option.some.inj H
   go_enter Try.func92, Try.ntmps92
   go_wp2_with (first | ((with_reducible refine gate_dst (N := 1) rfl ?_); refine box_event ?hg (N := 1) ?hd (cs := #[.int .i64 a0_0, .int .i64 a0_1]) (t := 36) ?hr ?_; (case hd => rfl); (case hg => rfl); (case hr => first | (go_simp; done) | (go_simp; rfl)); intro gb221 hg w5 hbox hb; have n0_ := Aside0.mk (below_stepD HB.out hb ⟨rfl, rfl, rfl, rfl⟩); have n1_ := Aside0.mk (hbox); have n2_ := Aside0.mk (geD HB.out hg rfl); have n3_ := Aside0.mk (geD HB.out hg rfl); clear HB; have HB := n0_; have BK221 := n1_; have GW221 := n2_; have GE221 := n3_; clear n0_ n1_ n2_ n3_; clear hb hbox hg; have hcz6_0 : w5.cell? ⟨gb221, 0, none⟩ = some (.int .i64 a0_0) := (blk_cell BK221.out 0).trans rfl; have hcz6_1 : w5.cell? ⟨gb221, 1, none⟩ = some (.int .i64 a0_1) := (blk_cell BK221.out 1).trans rfl; have hfz6_0 := blk_frozen BK221.out 0; have hfz6_1 := blk_frozen BK221.out 1) | ((with_reducible refine gate_callee (f := 46) rfl ?_); refine goesL_ (some 5) rfl rfl Try.func46 (by kernel_rfl) rfl #[.int .i64 a0_0] rfl (by (try simp only [List.map_toArray, List.map_cons, List.map_nil]); first | done | rfl | (simp only [List.length_drop, List.length_take]; rfl)) ?_; (with_reducible refine (impl_LabelOk.calls a0_0 true _ A2.out).mono ?_); rintro e w' ⟨rfl, ⟨nd, rfl⟩⟩; refine ⟨_, rfl, ?_⟩))
   go_ret
   exact ⟨by first | rfl | (simp [errW_none, errW_some] <;> rfl) | (simp [*, errW_none, errW_some] <;> rfl), by repeat (first | (with_reducible first | exact HB.out | apply below_alloc | apply pw_below_drewN | apply below_drew1 | refine below_set ?_ GE221.out) | exact HB.out)⟩
  ·rw [if_neg c4] at H
   have c4b0 : decide (0 ≤ a0_1) = false := decide_eq_false c4
   clear c4
   obtain rfl := Option.some.inj H
   go_enter Try.func92, Try.ntmps92
   go_wp2_with (first | ((with_reducible refine gate_dst (N := 1) rfl ?_); refine box_event ?hg (N := 1) ?hd (cs := #[.int .i64 a0_0, .int .i64 a0_1]) (t := 36) ?hr ?_; (case hd => rfl); (case hg => rfl); (case hr => first | (go_simp; done) | (go_simp; rfl)); intro gb221 hg w7 hbox hb; have n0_ := Aside0.mk (below_stepD HB.out hb ⟨rfl, rfl, rfl, rfl⟩); have n1_ := Aside0.mk (hbox); have n2_ := Aside0.mk (geD HB.out hg rfl); have n3_ := Aside0.mk (geD HB.out hg rfl); clear HB; have HB := n0_; have BK221 := n1_; have GW221 := n2_; have GE221 := n3_; clear n0_ n1_ n2_ n3_; clear hb hbox hg; have hcz8_0 : w7.cell? ⟨gb221, 0, none⟩ = some (.int .i64 a0_0) := (blk_cell BK221.out 0).trans rfl; have hcz8_1 : w7.cell? ⟨gb221, 1, none⟩ = some (.int .i64 a0_1) := (blk_cell BK221.out 1).trans rfl; have hfz8_0 := blk_frozen BK221.out 0; have hfz8_1 := blk_frozen BK221.out 1) | ((with_reducible refine gate_callee (f := 46) rfl ?_); refine goesL_ (some 5) rfl rfl Try.func46 (by kernel_rfl) rfl #[.int .i64 a0_0] rfl (by (try simp only [List.map_toArray, List.map_cons, List.map_nil]); first | done | rfl | (simp only [List.length_drop, List.length_take]; rfl)) ?_; (with_reducible refine (impl_LabelOk.calls a0_0 true _ A2.out).mono ?_); rintro e w' ⟨rfl, ⟨nd, rfl⟩⟩; refine ⟨_, rfl, ?_⟩))
   go_ret
   exact ⟨by first | rfl | (simp [errW_none, errW_some] <;> rfl) | (simp [*, errW_none, errW_some] <;> rfl), by repeat (first | (with_reducible first | exact HB.out | apply below_alloc | apply pw_below_drewN | apply below_drew1 | refine below_set ?_ GE221.out) | exact HB.out)⟩
 ·replace c3 := Bool.eq_false_iff.mpr c3
  subst c3
  have H1 : (some false) = some r := by rw [if_neg (show ¬ (false = true) by decide)] at H; exact H
  clear H
  have H := H1
  clear H1
  obtain rfl := Option.some.inj H
  go_enter Try.func92, Try.ntmps92
  go_wp2_with (first | ((with_reducible refine gate_dst (N := 1) rfl ?_); refine box_event ?hg (N := 1) ?hd (cs := #[.int .i64 a0_0, .int .i64 a0_1]) (t := 36) ?hr ?_; (case hd => rfl); (case hg => rfl); (case hr => first | (go_simp; done) | (go_simp; rfl)); intro gb221 hg w9 hbox hb; have n0_ := Aside0.mk (below_stepD HB.out hb ⟨rfl, rfl, rfl, rfl⟩); have n1_ := Aside0.mk (hbox); have n2_ := Aside0.mk (geD HB.out hg rfl); have n3_ := Aside0.mk (geD HB.out hg rfl); clear HB; have HB := n0_; have BK221 := n1_; have GW221 := n2_; have GE221 := n3_; clear n0_ n1_ n2_ n3_; clear hb hbox hg; have hcz10_0 : w9.cell? ⟨gb221, 0, none⟩ = some (.int .i64 a0_0) := (blk_cell BK221.out 0).trans rfl; have hcz10_1 : w9.cell? ⟨gb221, 1, none⟩ = some (.int .i64 a0_1) := (blk_cell BK221.out 1).trans rfl; have hfz10_0 := blk_frozen BK221.out 0; have hfz10_1 := blk_frozen BK221.out 1) | ((with_reducible refine gate_callee (f := 46) rfl ?_); refine goesL_ (some 5) rfl rfl Try.func46 (by kernel_rfl) rfl #[.int .i64 a0_0] rfl (by (try simp only [List.map_toArray, List.map_cons, List.map_nil]); first | done | rfl | (simp only [List.length_drop, List.length_take]; rfl)) ?_; (with_reducible refine (impl_LabelOk.calls a0_0 false _ A2.out).mono ?_); rintro e w' ⟨rfl, ⟨nd, rfl⟩⟩; refine ⟨_, rfl, ?_⟩))
  go_ret
  exact ⟨by first | rfl | (simp [errW_none, errW_some] <;> rfl) | (simp [*, errW_none, errW_some] <;> rfl), by repeat (first | (with_reducible first | exact HB.out | apply below_alloc | apply pw_below_drewN | apply below_drew1 | refine below_set ?_ GE221.out) | exact HB.out)⟩

/-! ### impl_NodeCode: function 116 -/
def impl_NodeCode.f (a0_0 : Int) (a0_1 : Int) : Option (Int) := (impl_NodeOk.f a0_0 a0_1).bind fun t224 => (if t224 = true then (some (wrap64 ((wrap64 (64 * a0_0)) + a0_1))) else (some (-1)))
set_option maxHeartbeats 8000000 in
set_option maxRecDepth 100000 in
theorem impl_NodeCode.calls (a0_0 : Int) (a0_1 : Int) (r : Int) (w : World) (h : impl_NodeCode.f a0_0 a0_1 = some r) :
  Calls Try.prog 116 #[.agg #[.int .i64 a0_0, .int .i64 a0_1]] w fun e w' => e = .returned (.int .i64 r) ∧ Below w.heap.size w w' := by
 have hu36 := Try.underlying36
 have HB := Aside0.mk (Below.refl w.heap.size w)
 have H : ((impl_NodeOk.f a0_0 a0_1).bind fun t224 => (if t224 = true then (some (wrap64 ((wrap64 (64 * a0_0)) + a0_1))) else (some (-1)))) = some r := h
 clear h
 replace H := Option.bind_eq_some_iff.mp H
 obtain ⟨t224, A20, H⟩ := H
 replace H : (if t224 = true then (some (wrap64 ((wrap64 (64 * a0_0)) + a0_1))) else (some (-1))) = some r := H
 have A2 := Aside0.mk A20
 clear A20
 by_cases c3 : t224 = true
 ·subst c3
  have H1 : (some (wrap64 ((wrap64 (64 * a0_0)) + a0_1))) = some r := by rw [if_pos rfl] at H; exact H
  clear H
  have H := H1
  clear H1
  obtain rfl := Option.some.inj H
  go_enter Try.func116, Try.ntmps116
  go_wp2_with (first | ((with_reducible refine gate_dst (N := 1) rfl ?_); refine box_event ?hg (N := 1) ?hd (cs := #[.int .i64 a0_0, .int .i64 a0_1]) (t := 36) ?hr ?_; (case hd => rfl); (case hg => rfl); (case hr => first | (go_simp; done) | (go_simp; rfl)); intro gb223 hg w4 hbox hb; have n0_ := Aside0.mk (below_stepD HB.out hb ⟨rfl, rfl, rfl, rfl⟩); have n1_ := Aside0.mk (hbox); have n2_ := Aside0.mk (geD HB.out hg rfl); have n3_ := Aside0.mk (geD HB.out hg rfl); clear HB; have HB := n0_; have BK223 := n1_; have GW223 := n2_; have GE223 := n3_; clear n0_ n1_ n2_ n3_; clear hb hbox hg; have hcz5_0 : w4.cell? ⟨gb223, 0, none⟩ = some (.int .i64 a0_0) := (blk_cell BK223.out 0).trans rfl; have hcz5_1 : w4.cell? ⟨gb223, 1, none⟩ = some (.int .i64 a0_1) := (blk_cell BK223.out 1).trans rfl; have hfz5_0 := blk_frozen BK223.out 0; have hfz5_1 := blk_frozen BK223.out 1) | ((with_reducible refine gate_callee (f := 92) rfl ?_); refine goesL_ (some 4) rfl rfl Try.func92 (by kernel_rfl) rfl #[.agg #[.int .i64 a0_0, .int .i64 a0_1]] rfl (by (try simp only [List.map_toArray, List.map_cons, List.map_nil]); first | done | rfl | (simp only [List.length_drop, List.length_take]; rfl)) ?_; (with_reducible refine (impl_NodeOk.calls a0_0 a0_1 true _ A2.out).mono ?_); rintro e w6 ⟨rfl, hb⟩; refine ⟨_, rfl, ?_⟩; have n0_ := Aside0.mk (blk_belowD BK223.out hb rfl); have n1_ := Aside0.mk (below_step (by repeat (first | (with_reducible first | exact HB.out | apply below_alloc | apply pw_below_drewN | apply below_drew1 | refine below_set ?_ GE223.out) | exact HB.out)) hb); clear BK223; clear HB; have BK223 := n0_; have HB := n1_; clear n0_ n1_; (try clear hb); (try clear hb2); (try clear hk); (try clear hi); have hcz7_0 : w6.cell? ⟨gb223, 0, none⟩ = some (.int .i64 a0_0) := (blk_cell BK223.out 0).trans rfl; have hcz7_1 : w6.cell? ⟨gb223, 1, none⟩ = some (.int .i64 a0_1) := (blk_cell BK223.out 1).trans rfl; have hfz7_0 := blk_frozen BK223.out 0; have hfz7_1 := blk_frozen BK223.out 1))
  go_ret
  exact ⟨by first | rfl | (simp [errW_none, errW_some] <;> rfl) | (simp [*, errW_none, errW_some] <;> rfl), by repeat (first | (with_reducible first | exact HB.out | apply below_alloc | apply pw_below_drewN | apply below_drew1 | refine below_set ?_ GE223.out) | exact HB.out)⟩
 ·replace c3 := Bool.eq_false_iff.mpr c3
  subst c3
  have H1 : (some (-1)) = some r := by rw [if_neg (show ¬ (false = true) by decide)] at H; exact H
  clear H
  have H := H1
  clear H1
  obtain rfl := Option.some.inj H
  go_enter Try.func116, Try.ntmps116
  go_wp2_with (first | ((with_reducible refine gate_dst (N := 1) rfl ?_); refine box_event ?hg (N := 1) ?hd (cs := #[.int .i64 a0_0, .int .i64 a0_1]) (t := 36) ?hr ?_; (case hd => rfl); (case hg => rfl); (case hr => first | (go_simp; done) | (go_simp; rfl)); intro gb223 hg w8 hbox hb; have n0_ := Aside0.mk (below_stepD HB.out hb ⟨rfl, rfl, rfl, rfl⟩); have n1_ := Aside0.mk (hbox); have n2_ := Aside0.mk (geD HB.out hg rfl); have n3_ := Aside0.mk (geD HB.out hg rfl); clear HB; have HB := n0_; have BK223 := n1_; have GW223 := n2_; have GE223 := n3_; clear n0_ n1_ n2_ n3_; clear hb hbox hg; have hcz9_0 : w8.cell? ⟨gb223, 0, none⟩ = some (.int .i64 a0_0) := (blk_cell BK223.out 0).trans rfl; have hcz9_1 : w8.cell? ⟨gb223, 1, none⟩ = some (.int .i64 a0_1) := (blk_cell BK223.out 1).trans rfl; have hfz9_0 := blk_frozen BK223.out 0; have hfz9_1 := blk_frozen BK223.out 1) | ((with_reducible refine gate_callee (f := 92) rfl ?_); refine goesL_ (some 4) rfl rfl Try.func92 (by kernel_rfl) rfl #[.agg #[.int .i64 a0_0, .int .i64 a0_1]] rfl (by (try simp only [List.map_toArray, List.map_cons, List.map_nil]); first | done | rfl | (simp only [List.length_drop, List.length_take]; rfl)) ?_; (with_reducible refine (impl_NodeOk.calls a0_0 a0_1 false _ A2.out).mono ?_); rintro e w10 ⟨rfl, hb⟩; refine ⟨_, rfl, ?_⟩; have n0_ := Aside0.mk (blk_belowD BK223.out hb rfl); have n1_ := Aside0.mk (below_step (by repeat (first | (with_reducible first | exact HB.out | apply below_alloc | apply pw_below_drewN | apply below_drew1 | refine below_set ?_ GE223.out) | exact HB.out)) hb); clear BK223; clear HB; have BK223 := n0_; have HB := n1_; clear n0_ n1_; (try clear hb); (try clear hb2); (try clear hk); (try clear hi)))
  go_ret
  exact ⟨by first | rfl | (simp [errW_none, errW_some] <;> rfl) | (simp [*, errW_none, errW_some] <;> rfl), by repeat (first | (with_reducible first | exact HB.out | apply below_alloc | apply pw_below_drewN | apply below_drew1 | refine below_set ?_ GE223.out) | exact HB.out)⟩

/-! ### impl_EdgeOk: function 93 -/
theorem iIs (a : Int) : impl_LabelOk.f a = some (isL a) := by
  unfold impl_LabelOk.f isL
  by_cases h : 0 ≤ a
  · rw [if_pos h]; simp [h]
  · rw [if_neg h]; simp [h]
theorem iU8 : ∀ a b : Fin 8, impl_LabelUnder.f (a.val : Int) (b.val : Int) = some (U a.val b.val) := by decide +kernel
theorem iU (a b : Int) : impl_LabelUnder.f a b = some (U a b) := by
  by_cases ha : isL a = true
  · by_cases hb : isL b = true
    · obtain ⟨x, rfl⟩ := fin8 ha
      obtain ⟨y, rfl⟩ := fin8 hb
      exact iU8 x y
    · simp [impl_LabelUnder.f, iIs, U, ha, hb]
  · simp [impl_LabelUnder.f, iIs, U, ha]
theorem iN (a b : Int) : impl_NodeOk.f a b = some (nOk a b) := by
  unfold impl_NodeOk.f
  rw [iIs]
  cases h : isL a
  · simp [nOk, h]
  · by_cases hb : 0 ≤ b
    · simp [nOk, h, hb]
    · simp [nOk, h, hb]
theorem iC (a b : Int) : impl_NodeCode.f a b = some (Cd a b) := by
  unfold impl_NodeCode.f Cd
  rw [iN]
  cases h : nOk a b
  · simp
  · have h' := nOk_iff.1 h
    simp only [Option.bind_some, if_true, w64 (x := 64 * a) (by omega), w64 (x := 64 * a + b) (by omega)]
def impl_EdgeOk.f (a0_0 : Int) (a0_1 : Int) (a0_2 : Int) (a0_3 : Int) (a0_4 : Int) : Option (Bool) := some (EOk a0_0 a0_1 a0_2 a0_3 a0_4)
set_option maxHeartbeats 8000000 in
set_option maxRecDepth 100000 in
theorem impl_EdgeOk.calls (a0_0 : Int) (a0_1 : Int) (a0_2 : Int) (a0_3 : Int) (a0_4 : Int) (r : Bool) (w : World) (h : impl_EdgeOk.f a0_0 a0_1 a0_2 a0_3 a0_4 = some r) :
    Calls Try.prog 93 #[.agg #[.int .i64 a0_0, .int .i64 a0_1, .int .i64 a0_2, .int .i64 a0_3, .int .i64 a0_4]] w fun e w' => e = .returned (.bool r) ∧ Below w.heap.size w w' := by
  have hu56 := Try.underlying56
  have hu36 := Try.underlying36
  have HB := Aside0.mk (Below.refl w.heap.size w)
  obtain rfl := Option.some.inj h
  clear h
  have F : ∀ (b1 b2 b3 b4 b5 b6 : Bool), isL a0_0 = b1 → nOk a0_1 a0_2 = b2 → nOk a0_3 a0_4 = b3 → decide (Cd a0_1 a0_2 < Cd a0_3 a0_4) = b4 → U a0_1 a0_0 = b5 → U a0_3 a0_0 = b6 →
      Calls Try.prog 93 #[.agg #[.int .i64 a0_0, .int .i64 a0_1, .int .i64 a0_2, .int .i64 a0_3, .int .i64 a0_4]] w fun e w' => e = .returned (.bool (b1 && (b2 && (b3 && (b4 && (b5 && b6)))))) ∧ Below w.heap.size w w' := by
    intro b1 b2 b3 b4 b5 b6 h1 h2 h3 h4 h5 h6
    have A1 := Aside0.mk ((iIs a0_0).trans (congrArg some h1))
    have A2 := Aside0.mk ((iN a0_1 a0_2).trans (congrArg some h2))
    have A3 := Aside0.mk ((iN a0_3 a0_4).trans (congrArg some h3))
    have A5 := Aside0.mk ((iU a0_1 a0_0).trans (congrArg some h5))
    have A6 := Aside0.mk ((iU a0_3 a0_0).trans (congrArg some h6))
    clear h1 h2 h3 h5 h6
    go_enter Try.func93, Try.ntmps93
    go_wp2_with (first | ((with_reducible refine gate_dst (N := 1) rfl ?_); refine box_event ?hg (N := 1) ?hd (cs := #[.int .i64 a0_0, .int .i64 a0_1, .int .i64 a0_2, .int .i64 a0_3, .int .i64 a0_4]) (t := 56) ?hr ?_; (case hd => rfl); (case hg => rfl); (case hr => first | (go_simp; done) | (go_simp; rfl)); intro gb hg w3 hbox hb; have n0_ := Aside0.mk (below_step HB.out hb); clear HB; have HB := n0_; clear n0_ hg hb))
    have hz0 : ∀ p : Bel w3, p.v.cell? ⟨gb, 0, none⟩ = some (.int .i64 a0_0) := fun p => cell_bel ((blk_cell hbox 0).trans rfl) p
    have hz1 : ∀ p : Bel w3, p.v.cell? ⟨gb, 1, none⟩ = some (.int .i64 a0_1) := fun p => cell_bel ((blk_cell hbox 1).trans rfl) p
    have hz2 : ∀ p : Bel w3, p.v.cell? ⟨gb, 2, none⟩ = some (.int .i64 a0_2) := fun p => cell_bel ((blk_cell hbox 2).trans rfl) p
    have hz3 : ∀ p : Bel w3, p.v.cell? ⟨gb, 3, none⟩ = some (.int .i64 a0_3) := fun p => cell_bel ((blk_cell hbox 3).trans rfl) p
    have hz4 : ∀ p : Bel w3, p.v.cell? ⟨gb, 4, none⟩ = some (.int .i64 a0_4) := fun p => cell_bel ((blk_cell hbox 4).trans rfl) p
    clear hbox
    refine wp_region_bel0 (by kernel_rfl) (by kernel_rfl) ?_
    rcases path6 b1 b2 b3 b4 b5 b6 with rfl | ⟨rfl, rfl⟩ | ⟨rfl, rfl, rfl⟩ | ⟨rfl, rfl, rfl, rfl⟩ | ⟨rfl, rfl, rfl, rfl, rfl⟩ | ⟨rfl, rfl, rfl, rfl, rfl, rfl⟩ | ⟨rfl, rfl, rfl, rfl, rfl, rfl⟩ <;>
    (repeat (go_big_quiet_step (first
        | with_reducible exact calls_bel0 (impl_LabelOk.calls _ _ _ A1.out)
        | with_reducible exact calls_bel (impl_NodeOk.calls a0_1 a0_2 _ _ A2.out)
        | with_reducible exact calls_bel (impl_NodeOk.calls a0_3 a0_4 _ _ A3.out)
        | with_reducible exact calls_bel (impl_NodeCode.calls a0_1 a0_2 _ _ (iC a0_1 a0_2))
        | with_reducible exact calls_bel (impl_NodeCode.calls a0_3 a0_4 _ _ (iC a0_3 a0_4))
        | with_reducible exact calls_bel0 (impl_LabelUnder.calls a0_1 a0_0 _ _ A5.out)
        | with_reducible exact calls_bel0 (impl_LabelUnder.calls a0_3 a0_0 _ _ A6.out)))
     refine wpQuiet_nil ?_
     intro _ hw'
     obtain ⟨⟨wq, hbq⟩, hw''⟩ := hw'
     subst hw''
     go_wp2
     go_ret
     exact ⟨by first | rfl | (simp; done) | (simp [*]; done), below_step HB.out hbq⟩)
  have G := F _ _ _ _ _ _ rfl rfl rfl rfl rfl rfl
  have e : EOk a0_0 a0_1 a0_2 a0_3 a0_4 = (isL a0_0 && (nOk a0_1 a0_2 && (nOk a0_3 a0_4 && (decide (Cd a0_1 a0_2 < Cd a0_3 a0_4) && (U a0_1 a0_0 && U a0_3 a0_0))))) := by
    unfold EOk Cd
    cases h1 : nOk a0_1 a0_2
    · simp
    · cases h2 : nOk a0_3 a0_4
      · simp
      · simp
  rw [e]
  exact G

/-! ### impl_nodesOk: function 81 -/
/-- Counts, as the cells of an array. -/
def cts (m : List Int) : Array Value := (m.map fun x => Value.int .i64 x).toArray
theorem cts_get (m : List Int) (i : Nat) (h : i < m.length) : (cts m)[i]? = some (.int .i64 (rd m i)) := by
  simp [cts, rd, h]
theorem cts_set (m : List Int) (i : Nat) (x : Int) : (cts m).setIfInBounds i (.int .i64 x) = cts (m.set i x) := by
  simp [cts, List.map_set]
def impl_nodesOk.l0 : Nat → List S36 → Int → List Int → Int → Option Bool
  | 0, _, _, _, _ => none
  | k + 1, xs, last, m, i => if i < (xs.length : Int) then (if 0 ≤ i then (if Cd (rd_T36 xs i).f0 (rd_T36 xs i).f1 ≤ last then some false else (if rd m (rd_T36 xs i).f0 = 5 then some false else impl_nodesOk.l0 k xs (Cd (rd_T36 xs i).f0 (rd_T36 xs i).f1) (m.set ((rd_T36 xs i).f0).toNat (wrap64 (rd m (rd_T36 xs i).f0 + 1))) (wrap64 (i + 1)))) else none) else some true
def impl_nodesOk.f (k : Nat) (l0 : List S36) : Option Bool := impl_nodesOk.l0 k l0 (-1) [0, 0, 0, 0, 0, 0, 0, 0] 0
theorem impl_nodesOk.mono_l : ∀ k, (∀ y0 y1 y2 y3, LeO (impl_nodesOk.l0 k y0 y1 y2 y3) (impl_nodesOk.l0 (k + 1) y0 y1 y2 y3))
  | 0 => fun _ _ _ _ r h => by simp [impl_nodesOk.l0] at h
  | k + 1 => by
    have ih0 := impl_nodesOk.mono_l k
    intro y0 y1 y2 y3
    unfold impl_nodesOk.l0
    repeat' first
    | (with_reducible exact ih0 _ _ _ _)
    | (with_reducible exact LeO.refl _)
    | (with_reducible exact LeO.none _)
    | (with_reducible refine LeO.ite ?_ ?_)
theorem impl_nodesOk.mono : ∀ a0 k, LeO (impl_nodesOk.f k a0) (impl_nodesOk.f (k + 1) a0) := fun a0 k => impl_nodesOk.mono_l k _ _ _ _
set_option maxHeartbeats 8000000 in
set_option maxRecDepth 100000 in
theorem impl_nodesOk.calls (k : Nat) (A0 : Option Addr) (c0 : Nat) (l0 : List S36) (r : Bool) (w : World) (hr0 : Kd.C k36 w A0 l0.length l0) (hc0 : l0.length ≤ c0) (h : impl_nodesOk.f k l0 = some r) :
    Calls Try.prog 81 #[.slice A0 l0.length c0] w fun e w' => e = .returned (.bool r) ∧ Below w.heap.size w w' := by
  have hu36 := Try.underlying36
  have hu122 := Try.underlying122
  have HR0 := Aside0.mk hr0
  have HC0 := Aside0.mk hc0
  clear hr0 hc0
  have HB := Aside0.mk (Below.refl w.heap.size w)
  have H' := Aside0.mk (show impl_nodesOk.l0 k l0 (-1) [0, 0, 0, 0, 0, 0, 0, 0] 0 = some r from h)
  clear h
  go_enter Try.func81, Try.ntmps81
  go_wp2_with (first | ((with_reducible refine gate_dst (N := 3) rfl ?_); refine box_event ?hg (N := 3) ?hd (cs := cts [0, 0, 0, 0, 0, 0, 0, 0]) (t := 122) ?hr ?_; (case hd => rfl); (case hg => rfl); (case hr => first | (go_simp; done) | (go_simp; rfl)); intro gb hg w3 hbox hb; have n0_ := Aside0.mk (below_step HB.out hb); have n1_ := Aside0.mk hbox; have n2_ := Aside0.mk ((by rw [hg]; exact (below_size (by repeat (first | (with_reducible first | exact HB.out | apply below_alloc | apply pw_below_drewN | apply below_drew1) | exact HB.out))) : w.heap.size ≤ gb)); clear HB; have HB := n0_; have BK := n1_; have GE := n2_; clear n0_ n1_ n2_ hg hb hbox))
  go_loopg [4, 10] k (fun kq v4 v10 w' => ∃ (x4 x10 : Int) (m : List Int), v4 = .int .i64 x4 ∧ v10 = .int .i64 x10 ∧ Aside0 (impl_nodesOk.l0 kq l0 x4 m x10 = some r) ∧ Aside0 (-1 ≤ x4 ∧ m.length = 8) ∧ Aside0 (kq ≤ k) ∧ Aside0 (w'.heap[gb]? = some (.cells (cts m) 122 (0, 0))) ∧ Aside0 (Below w.heap.size w w'))
  case atStart => exact ⟨-1, 0, [0, 0, 0, 0, 0, 0, 0, 0], (by first | rfl | (simp; done) | (simp [*]; done)), (by first | rfl | (simp; done) | (simp [*]; done)), H', ⟨by omega, rfl⟩, ⟨Nat.le_refl _⟩, ⟨by (with_reducible repeat (first | refine blk_drewN ?_ _ | refine blk_drew ?_ | refine blk_alloc ?_ _)); exact BK.out⟩, ⟨by repeat (first | (with_reducible first | exact HB.out | apply below_alloc | apply pw_below_drewN | apply below_drew1 | refine below_set ?_ GE.out) | exact HB.out)⟩⟩
  case round =>
    clear H'
    obtain ⟨x4, x10, m, rfl, rfl, HA, HM, HK1, BK, HB⟩ := hrel
    cases gk with
    | zero => exact absurd HA.out (by simp [impl_nodesOk.l0])
    | succ k1 =>
      have H := HA.out
      clear HA
      simp only [impl_nodesOk.l0] at H
      by_cases c1 : x10 < (l0.length : Int)
      · rw [if_pos c1] at H
        have c1b0 : decide (x10 < (l0.length : Int)) = true := decide_eq_true c1
        by_cases c2 : 0 ≤ x10
        · rw [if_pos c2] at H
          have p0 := c2
          have q0 := c1
          obtain ⟨ad, ea, hx0, hx1⟩ := at_T36 HR0.out x10 p0 q0
          cases ea
          replace hx0 := (HB.out.cell (World.block_lt_of_cell? w _ hx0)).trans hx0
          replace hx1 := (HB.out.cell (World.block_lt_of_cell? w _ hx1)).trans hx1
          replace p0 := eq_true p0
          replace q0 := eq_true q0
          generalize (rd_T36 l0 x10).f0 = f0 at H hx0 hx1
          generalize (rd_T36 l0 x10).f1 = f1 at H hx0 hx1
          clear c1 c2
          go_wp2_with (first | ((with_reducible refine gate_dst (N := 6) rfl ?_); refine box_event ?hg (N := 6) ?hd (cs := #[.int .i64 0, .int .i64 0]) (t := 36) ?hr ?_; (case hd => rfl); (case hg => rfl); (case hr => first | (go_simp; done) | (go_simp; rfl)); intro gn hg w5 hbox hb; have n0_ := Aside0.mk (blk_below (g := gb) (by (with_reducible repeat (first | refine blk_drewN ?_ _ | refine blk_drew ?_ | refine blk_alloc ?_ _)); exact BK.out) hb); have n1_ := Aside0.mk (below_step (by repeat (first | (with_reducible first | exact HB.out | apply below_alloc | apply pw_below_drewN | apply below_drew1 | refine below_set ?_ GE.out) | exact HB.out)) hb); have n2_ := Aside0.mk hbox; have n3_ := Aside0.mk ((by rw [hg]; exact (below_size (by repeat (first | (with_reducible first | exact HB.out | apply below_alloc | apply pw_below_drewN | apply below_drew1 | refine below_set ?_ GE.out) | exact HB.out))) : w.heap.size ≤ gn)); have n4_ := Aside0.mk ((by rw [hg]; exact Nat.ne_of_lt (blk_lt (g := gb) (by (with_reducible repeat (first | refine blk_drewN ?_ _ | refine blk_drew ?_ | refine blk_alloc ?_ _)); exact BK.out)) : gb ≠ gn)); clear BK HB; have BK := n0_; have HB := n1_; have BN := n2_; have GN := n3_; have NE := n4_; clear n0_ n1_ n2_ n3_ n4_; clear hb hbox hg; have hcz0 : w5.cell? ⟨gn, 0, none⟩ = some (.int .i64 0) := (blk_cell BN.out 0).trans rfl; have hcz1 : w5.cell? ⟨gn, 1, none⟩ = some (.int .i64 0) := (blk_cell BN.out 1).trans rfl; have hfz0 := blk_frozen BN.out 0; have hfz1 := blk_frozen BN.out 1))
          have n0_ := Aside0.mk (blk_far (blk_far BK.out (p := ⟨gn, 0, none⟩) NE.out (.int .i64 f0)) (p := ⟨gn, 1, none⟩) NE.out (.int .i64 f1))
          have n1_ := Aside0.mk (blk_put (cs' := #[.int .i64 f0, .int .i64 f1]) (blk_put (cs' := #[.int .i64 f0, .int .i64 0]) BN.out 0 (.int .i64 f0) rfl) 1 (.int .i64 f1) rfl)
          have n2_ := Aside0.mk (below_set (j := 1) (v := .int .i64 f1) (below_set (j := 0) (v := .int .i64 f0) HB.out GN.out) GN.out)
          clear BK BN HB hcz0 hcz1 hfz0 hfz1
          have BK := n0_
          have BN := n1_
          have HB := n2_
          clear n0_ n1_ n2_
          generalize (w5.setCell ⟨gn, 0, none⟩ (.int .i64 f0)).setCell ⟨gn, 1, none⟩ (.int .i64 f1) = w6 at BK BN HB ⊢
          refine (impl_NodeCode.calls _ _ _ _ (iC _ _)).mono ?_
          rintro e w7 ⟨rfl, hb⟩
          have n0_ := Aside0.mk (blk_below BK.out hb)
          have n1_ := Aside0.mk (blk_below BN.out hb)
          have n2_ := Aside0.mk (below_step HB.out hb)
          clear BK BN HB hb
          have BK := n0_
          have BN := n1_
          have HB := n2_
          clear n0_ n1_ n2_
          have hcz0 : w7.cell? ⟨gn, 0, none⟩ = some (.int .i64 f0) := (blk_cell BN.out 0).trans rfl
          have hcz1 : w7.cell? ⟨gn, 1, none⟩ = some (.int .i64 f1) := (blk_cell BN.out 1).trans rfl
          by_cases c3 : Cd f0 f1 ≤ x4
          · rw [if_pos c3] at H
            have c3b0 : decide (Cd f0 f1 ≤ x4) = true := decide_eq_true c3
            clear c3
            obtain rfl := Option.some.inj H
            go_wp2
            go_ret
            exact ⟨by first | rfl | (simp; done) | (simp [*]; done), by repeat (first | (with_reducible first | exact HB.out | apply below_alloc | apply pw_below_drewN | apply below_drew1) | exact HB.out)⟩
          · rw [if_neg c3] at H
            have c3b0 : decide (Cd f0 f1 ≤ x4) = false := decide_eq_false c3
            have hok := Cd_ok (a := f0) (b := f1) (by have := HM.out.1; omega)
            obtain ⟨j, rfl⟩ := Int.eq_ofNat_of_zero_le hok.2.1
            have hj8 : j < 8 := by omega
            have hjm : j < m.length := by have := HM.out.2; omega
            have hcm : w7.cell? ⟨gb, j, none⟩ = some (.int .i64 (rd m j)) := (blk_cell BK.out j).trans (cts_get m j hjm)
            have hfm := blk_frozen BK.out j
            have hlo : (0 ≤ (j : Int)) = True := eq_true (by omega)
            have hhi : ((j : Int) < 8) = True := eq_true (by omega)
            have hC0 : -1 ≤ Cd (j : Int) f1 := by rw [hok.1]; omega
            clear c3 hok
            by_cases c4 : rd m (j : Int) = 5
            · rw [if_pos c4] at H
              have c4b0 : (rd m (j : Int) == 5) = true := beq_iff_eq.mpr c4
              clear c4
              obtain rfl := Option.some.inj H
              go_wp2
              go_ret
              exact ⟨by first | rfl | (simp; done) | (simp [*]; done), by repeat (first | (with_reducible first | exact HB.out | apply below_alloc | apply pw_below_drewN | apply below_drew1) | exact HB.out)⟩
            · rw [if_neg c4] at H
              have c4b0 : (rd m (j : Int) == 5) = false := beq_eq_false_iff_ne.mpr c4
              clear c4
              have H' := Aside0.mk H
              clear H
              go_wp2
              go_roundg k1
              case measure => have := HK1.out; omega
              case rel => exact ⟨Cd (j : Int) f1, wrap64 (x10 + 1), m.set j (wrap64 (rd m (j : Int) + 1)), (by first | rfl | (simp; done) | (simp [*]; done)), (by first | rfl | (simp; done) | (simp [*]; done)), ⟨by simpa using H'.out⟩, ⟨hC0, by simpa using HM.out.2⟩, ⟨by have := HK1.out; omega⟩, ⟨by refine blk_put ?_ j _ (cts_set m j _); exact BK.out⟩, ⟨by refine below_set ?_ GE.out; exact HB.out⟩⟩
        · rw [if_neg c2] at H; cases H
      · rw [if_neg c1] at H
        have c1b0 : decide (x10 < (l0.length : Int)) = false := decide_eq_false c1
        clear c1
        obtain rfl := Option.some.inj H
        go_wp2
        go_ret
        exact ⟨by first | rfl | (simp; done) | (simp [*]; done), by repeat (first | (with_reducible first | exact HB.out | apply below_alloc | apply pw_below_drewN | apply below_drew1 | refine below_set ?_ GE.out) | exact HB.out)⟩

/-! ### cmp_isNaN_int: function 160 -/
def cmp_isNaN_int.f (a0 : Int) : Option (Bool) := some (a0 != a0)
set_option maxHeartbeats 8000000 in
set_option maxRecDepth 100000 in
theorem cmp_isNaN_int.calls (a0 : Int) (r : Bool) (w : World) (h : cmp_isNaN_int.f a0 = some r) :
  Calls Try.prog 160 #[.int .i64 a0] w fun e w' => e = .returned (.bool r) ∧ Drawn0 w w' := by
 have H : (some (a0 != a0)) = some r := h
 clear h
 obtain rfl := Option.some.inj H
 go_enter Try.func160, Try.ntmps160
 go_wp2
 go_ret
 exact ⟨by first | rfl | (simp; done) | (simp [*]; done), by repeat (first | exact Drawn0.refl _ | apply Drawn0.step)⟩

/-! ### cmp_Compare_int: function 138 -/
def cmp_Compare_int.f (a0 : Int) (a1 : Int) : Option (Int) := (cmp_isNaN_int.f a0).bind fun t225 => ((cmp_isNaN_int.f a1).bind fun t226 => (if t225 = true then (if t226 = true then (some 0) else (some (-1))) else (if t226 = true then (some 1) else (if a0 < a1 then (some (-1)) else (if a0 > a1 then (some 1) else (some 0))))))
set_option maxHeartbeats 8000000 in
set_option maxRecDepth 100000 in
theorem cmp_Compare_int.calls (a0 : Int) (a1 : Int) (r : Int) (w : World) (h : cmp_Compare_int.f a0 a1 = some r) :
  Calls Try.prog 138 #[.int .i64 a0, .int .i64 a1] w fun e w' => e = .returned (.int .i64 r) ∧ Drawn0 w w' := by
 have H : ((cmp_isNaN_int.f a0).bind fun t225 => ((cmp_isNaN_int.f a1).bind fun t226 => (if t225 = true then (if t226 = true then (some 0) else (some (-1))) else (if t226 = true then (some 1) else (if a0 < a1 then (some (-1)) else (if a0 > a1 then (some 1) else (some 0))))))) = some r := h
 clear h
 replace H := Option.bind_eq_some_iff.mp H
 obtain ⟨t225, A30, H⟩ := H
 replace H : ((cmp_isNaN_int.f a1).bind fun t226 => (if t225 = true then (if t226 = true then (some 0) else (some (-1))) else (if t226 = true then (some 1) else (if a0 < a1 then (some (-1)) else (if a0 > a1 then (some 1) else (some 0)))))) = some r := H
 have A3 := Aside0.mk A30
 clear A30
 replace H := Option.bind_eq_some_iff.mp H
 obtain ⟨t226, A40, H⟩ := H
 replace H : (if t225 = true then (if t226 = true then (some 0) else (some (-1))) else (if t226 = true then (some 1) else (if a0 < a1 then (some (-1)) else (if a0 > a1 then (some 1) else (some 0))))) = some r := H
 have A4 := Aside0.mk A40
 clear A40
 by_cases c5 : t225 = true
 ·subst c5
  have H1 : (if t226 = true then (some 0) else (some (-1))) = some r := by rw [if_pos rfl] at H; exact H
  clear H
  have H := H1
  clear H1
  by_cases c6 : t226 = true
  ·subst c6
   have H1 : (some 0) = some r := by rw [if_pos rfl] at H; exact H
   clear H
   have H := H1
   clear H1
   obtain rfl := Option.some.inj H
   go_enter Try.func138, Try.ntmps138
   go_wp2_with (first | ((with_reducible refine gate_callee (f := 160) rfl ?_); refine goesL_ (some 8) rfl rfl Try.func160 (by kernel_rfl) rfl #[.int .i64 a0] rfl (by (try simp only [List.map_toArray, List.map_cons, List.map_nil]); first | done | rfl | (simp only [List.length_drop, List.length_take]; rfl)) ?_; (with_reducible refine (cmp_isNaN_int.calls a0 true _ A3.out).mono ?_); rintro e w' ⟨rfl, ⟨nd, rfl⟩⟩; refine ⟨_, rfl, ?_⟩) | ((with_reducible refine gate_callee (f := 160) rfl ?_); refine goesL_ (some 10) rfl rfl Try.func160 (by kernel_rfl) rfl #[.int .i64 a1] rfl (by (try simp only [List.map_toArray, List.map_cons, List.map_nil]); first | done | rfl | (simp only [List.length_drop, List.length_take]; rfl)) ?_; (with_reducible refine (cmp_isNaN_int.calls a1 true _ A4.out).mono ?_); rintro e w' ⟨rfl, ⟨nd, rfl⟩⟩; refine ⟨_, rfl, ?_⟩))
   go_ret
   exact ⟨by first | rfl | (simp; done) | (simp [*]; done), by repeat (first | exact Drawn0.refl _ | apply Drawn0.step)⟩
  ·replace c6 := Bool.eq_false_iff.mpr c6
   subst c6
   have H1 : (some (-1)) = some r := by rw [if_neg (show ¬ (false = true) by decide)] at H; exact H
   clear H
   have H := H1
   clear H1
   obtain rfl := Option.some.inj H
   go_enter Try.func138, Try.ntmps138
   go_wp2_with (first | ((with_reducible refine gate_callee (f := 160) rfl ?_); refine goesL_ (some 8) rfl rfl Try.func160 (by kernel_rfl) rfl #[.int .i64 a0] rfl (by (try simp only [List.map_toArray, List.map_cons, List.map_nil]); first | done | rfl | (simp only [List.length_drop, List.length_take]; rfl)) ?_; (with_reducible refine (cmp_isNaN_int.calls a0 true _ A3.out).mono ?_); rintro e w' ⟨rfl, ⟨nd, rfl⟩⟩; refine ⟨_, rfl, ?_⟩) | ((with_reducible refine gate_callee (f := 160) rfl ?_); refine goesL_ (some 10) rfl rfl Try.func160 (by kernel_rfl) rfl #[.int .i64 a1] rfl (by (try simp only [List.map_toArray, List.map_cons, List.map_nil]); first | done | rfl | (simp only [List.length_drop, List.length_take]; rfl)) ?_; (with_reducible refine (cmp_isNaN_int.calls a1 false _ A4.out).mono ?_); rintro e w' ⟨rfl, ⟨nd, rfl⟩⟩; refine ⟨_, rfl, ?_⟩))
   go_ret
   exact ⟨by first | rfl | (simp; done) | (simp [*]; done), by repeat (first | exact Drawn0.refl _ | apply Drawn0.step)⟩
 ·replace c5 := Bool.eq_false_iff.mpr c5
  subst c5
  have H1 : (if t226 = true then (some 1) else (if a0 < a1 then (some (-1)) else (if a0 > a1 then (some 1) else (some 0)))) = some r := by rw [if_neg (show ¬ (false = true) by decide)] at H; exact H
  clear H
  have H := H1
  clear H1
  by_cases c7 : t226 = true
  ·subst c7
   have H1 : (some 1) = some r := by rw [if_pos rfl] at H; exact H
   clear H
   have H := H1
   clear H1
   obtain rfl := Option.some.inj H
   go_enter Try.func138, Try.ntmps138
   go_wp2_with (first | ((with_reducible refine gate_callee (f := 160) rfl ?_); refine goesL_ (some 8) rfl rfl Try.func160 (by kernel_rfl) rfl #[.int .i64 a0] rfl (by (try simp only [List.map_toArray, List.map_cons, List.map_nil]); first | done | rfl | (simp only [List.length_drop, List.length_take]; rfl)) ?_; (with_reducible refine (cmp_isNaN_int.calls a0 false _ A3.out).mono ?_); rintro e w' ⟨rfl, ⟨nd, rfl⟩⟩; refine ⟨_, rfl, ?_⟩) | ((with_reducible refine gate_callee (f := 160) rfl ?_); refine goesL_ (some 10) rfl rfl Try.func160 (by kernel_rfl) rfl #[.int .i64 a1] rfl (by (try simp only [List.map_toArray, List.map_cons, List.map_nil]); first | done | rfl | (simp only [List.length_drop, List.length_take]; rfl)) ?_; (with_reducible refine (cmp_isNaN_int.calls a1 true _ A4.out).mono ?_); rintro e w' ⟨rfl, ⟨nd, rfl⟩⟩; refine ⟨_, rfl, ?_⟩))
   go_ret
   exact ⟨by first | rfl | (simp; done) | (simp [*]; done), by repeat (first | exact Drawn0.refl _ | apply Drawn0.step)⟩
  ·replace c7 := Bool.eq_false_iff.mpr c7
   subst c7
   have H1 : (if a0 < a1 then (some (-1)) else (if a0 > a1 then (some 1) else (some 0))) = some r := by rw [if_neg (show ¬ (false = true) by decide)] at H; exact H
   clear H
   have H := H1
   clear H1
   by_cases c8 : a0 < a1
   ·rw [if_pos c8] at H
    have c8b0 : decide (a0 < a1) = true := decide_eq_true c8
    clear c8
    obtain rfl := Option.some.inj H
    go_enter Try.func138, Try.ntmps138
    go_wp2_with (first | ((with_reducible refine gate_callee (f := 160) rfl ?_); refine goesL_ (some 8) rfl rfl Try.func160 (by kernel_rfl) rfl #[.int .i64 a0] rfl (by (try simp only [List.map_toArray, List.map_cons, List.map_nil]); first | done | rfl | (simp only [List.length_drop, List.length_take]; rfl)) ?_; (with_reducible refine (cmp_isNaN_int.calls a0 false _ A3.out).mono ?_); rintro e w' ⟨rfl, ⟨nd, rfl⟩⟩; refine ⟨_, rfl, ?_⟩) | ((with_reducible refine gate_callee (f := 160) rfl ?_); refine goesL_ (some 10) rfl rfl Try.func160 (by kernel_rfl) rfl #[.int .i64 a1] rfl (by (try simp only [List.map_toArray, List.map_cons, List.map_nil]); first | done | rfl | (simp only [List.length_drop, List.length_take]; rfl)) ?_; (with_reducible refine (cmp_isNaN_int.calls a1 false _ A4.out).mono ?_); rintro e w' ⟨rfl, ⟨nd, rfl⟩⟩; refine ⟨_, rfl, ?_⟩))
    go_ret
    exact ⟨by first | rfl | (simp; done) | (simp [*]; done), by repeat (first | exact Drawn0.refl _ | apply Drawn0.step)⟩
   ·rw [if_neg c8] at H
    have c8b0 : decide (a0 < a1) = false := decide_eq_false c8
    clear c8
    by_cases c9 : a0 > a1
    ·rw [if_pos c9] at H
     have c9b0 : decide (a1 < a0) = true := decide_eq_true c9
     clear c9
     obtain rfl := Option.some.inj H
     go_enter Try.func138, Try.ntmps138
     go_wp2_with (first | ((with_reducible refine gate_callee (f := 160) rfl ?_); refine goesL_ (some 8) rfl rfl Try.func160 (by kernel_rfl) rfl #[.int .i64 a0] rfl (by (try simp only [List.map_toArray, List.map_cons, List.map_nil]); first | done | rfl | (simp only [List.length_drop, List.length_take]; rfl)) ?_; (with_reducible refine (cmp_isNaN_int.calls a0 false _ A3.out).mono ?_); rintro e w' ⟨rfl, ⟨nd, rfl⟩⟩; refine ⟨_, rfl, ?_⟩) | ((with_reducible refine gate_callee (f := 160) rfl ?_); refine goesL_ (some 10) rfl rfl Try.func160 (by kernel_rfl) rfl #[.int .i64 a1] rfl (by (try simp only [List.map_toArray, List.map_cons, List.map_nil]); first | done | rfl | (simp only [List.length_drop, List.length_take]; rfl)) ?_; (with_reducible refine (cmp_isNaN_int.calls a1 false _ A4.out).mono ?_); rintro e w' ⟨rfl, ⟨nd, rfl⟩⟩; refine ⟨_, rfl, ?_⟩))
     go_ret
     exact ⟨by first | rfl | (simp; done) | (simp [*]; done), by repeat (first | exact Drawn0.refl _ | apply Drawn0.step)⟩
    ·rw [if_neg c9] at H
     have c9b0 : decide (a1 < a0) = false := decide_eq_false c9
     clear c9
     obtain rfl := Option.some.inj H
     go_enter Try.func138, Try.ntmps138
     go_wp2_with (first | ((with_reducible refine gate_callee (f := 160) rfl ?_); refine goesL_ (some 8) rfl rfl Try.func160 (by kernel_rfl) rfl #[.int .i64 a0] rfl (by (try simp only [List.map_toArray, List.map_cons, List.map_nil]); first | done | rfl | (simp only [List.length_drop, List.length_take]; rfl)) ?_; (with_reducible refine (cmp_isNaN_int.calls a0 false _ A3.out).mono ?_); rintro e w' ⟨rfl, ⟨nd, rfl⟩⟩; refine ⟨_, rfl, ?_⟩) | ((with_reducible refine gate_callee (f := 160) rfl ?_); refine goesL_ (some 10) rfl rfl Try.func160 (by kernel_rfl) rfl #[.int .i64 a1] rfl (by (try simp only [List.map_toArray, List.map_cons, List.map_nil]); first | done | rfl | (simp only [List.length_drop, List.length_take]; rfl)) ?_; (with_reducible refine (cmp_isNaN_int.calls a1 false _ A4.out).mono ?_); rintro e w' ⟨rfl, ⟨nd, rfl⟩⟩; refine ⟨_, rfl, ?_⟩))
     go_ret
     exact ⟨by first | rfl | (simp; done) | (simp [*]; done), by repeat (first | exact Drawn0.refl _ | apply Drawn0.step)⟩

/-! ### impl_nodeOrder: function 105 -/
def impl_nodeOrder.f (a0_0 : Int) (a0_1 : Int) (a1_0 : Int) (a1_1 : Int) : Option (Int) := (impl_NodeCode.f a0_0 a0_1).bind fun t229 => ((impl_NodeCode.f a1_0 a1_1).bind fun t230 => ((cmp_Compare_int.f t229 t230).bind fun t231 => (some t231)))
set_option maxHeartbeats 8000000 in
set_option maxRecDepth 100000 in
theorem impl_nodeOrder.calls (a0_0 : Int) (a0_1 : Int) (a1_0 : Int) (a1_1 : Int) (r : Int) (w : World) (h : impl_nodeOrder.f a0_0 a0_1 a1_0 a1_1 = some r) :
  Calls Try.prog 105 #[.agg #[.int .i64 a0_0, .int .i64 a0_1], .agg #[.int .i64 a1_0, .int .i64 a1_1]] w fun e w' => e = .returned (.int .i64 r) ∧ Below w.heap.size w w' := by
 have hu36 := Try.underlying36
 have HB := Aside0.mk (Below.refl w.heap.size w)
 have H : ((impl_NodeCode.f a0_0 a0_1).bind fun t229 => ((impl_NodeCode.f a1_0 a1_1).bind fun t230 => ((cmp_Compare_int.f t229 t230).bind fun t231 => (some t231)))) = some r := h
 clear h
 replace H := Option.bind_eq_some_iff.mp H
 obtain ⟨t229, A30, H⟩ := H
 replace H : ((impl_NodeCode.f a1_0 a1_1).bind fun t230 => ((cmp_Compare_int.f t229 t230).bind fun t231 => (some t231))) = some r := H
 have A3 := Aside0.mk A30
 clear A30
 replace H := Option.bind_eq_some_iff.mp H
 obtain ⟨t230, A40, H⟩ := H
 replace H : ((cmp_Compare_int.f t229 t230).bind fun t231 => (some t231)) = some r := H
 have A4 := Aside0.mk A40
 clear A40
 replace H := Option.bind_eq_some_iff.mp H
 obtain ⟨t231, A50, H⟩ := H
 replace H : (some t231) = some r := H
 have A5 := Aside0.mk A50
 clear A50
 obtain rfl := Option.some.inj H
 go_enter Try.func105, Try.ntmps105
 try go_wp2_with (first | ((with_reducible refine gate_dst (N := 2) rfl ?_); refine box_event ?hg (N := 2) ?hd (cs := #[.int .i64 a0_0, .int .i64 a0_1]) (t := 36) ?hr ?_; (case hd => rfl); (case hg => rfl); (case hr => first | (go_simp; done) | (go_simp; rfl)); intro gb227 hg w6 hbox hb; have n0_ := Aside0.mk (below_stepD HB.out hb ⟨rfl, rfl, rfl, rfl⟩); have n1_ := Aside0.mk (hbox); have n2_ := Aside0.mk (geD HB.out hg rfl); have n3_ := Aside0.mk (geD HB.out hg rfl); clear HB; have HB := n0_; have BK227 := n1_; have GW227 := n2_; have GE227 := n3_; clear n0_ n1_ n2_ n3_; clear hb hbox hg) | ((with_reducible refine gate_dst (N := 3) rfl ?_); refine box_event ?hg (N := 3) ?hd (cs := #[.int .i64 a1_0, .int .i64 a1_1]) (t := 36) ?hr ?_; (case hd => rfl); (case hg => rfl); (case hr => first | (go_simp; done) | (go_simp; rfl)); intro gb228 hg w7 hbox hb; have n0_ := Aside0.mk (blk_belowD BK227.out hb rfl); have n1_ := Aside0.mk (below_step (by repeat (first | (with_reducible first | exact HB.out | apply below_alloc | apply pw_below_drewN | apply below_drew1 | refine below_set ?_ GE227.out) | exact HB.out)) hb); have n2_ := Aside0.mk (hbox); have n3_ := Aside0.mk (geD HB.out hg rfl); have n4_ := Aside0.mk (geD HB.out hg rfl); have n5_ := Aside0.mk (neD BK227.out hg rfl); have n6_ := Aside0.mk (neD' BK227.out hg rfl); clear BK227; clear HB; have BK227 := n0_; have HB := n1_; have BK228 := n2_; have GW228 := n3_; have GE228 := n4_; have NB227_228 := n5_; have NB228_227 := n6_; clear n0_ n1_ n2_ n3_ n4_ n5_ n6_; clear hb hbox hg))
 have n0_ := Aside0.mk (blk_drew BK227.out)
 have n1_ := Aside0.mk (blk_drew BK228.out)
 have n2_ := Aside0.mk (below_drew1 HB.out)
 clear BK227
 clear BK228
 clear HB
 have BK227 := n0_
 have BK228 := n1_
 have HB := n2_
 clear n0_ n1_ n2_
 refine wp_region_bel (by kernel_rfl) (by kernel_rfl) ?_
 generalize w7.drew = w8 at BK227 BK228 HB ⊢
 have hbp_ := fun (p_ : Bel w8) => below_step HB.out p_.h
 have hz0_ : ∀ p_ : Bel w8, p_.v.cell? ⟨gb227, 0, none⟩ = some (.int .i64 a0_0) := fun p_ => cell_bel ((blk_cell BK227.out 0).trans rfl) p_
 have hz1_ : ∀ p_ : Bel w8, p_.v.cell? ⟨gb227, 1, none⟩ = some (.int .i64 a0_1) := fun p_ => cell_bel ((blk_cell BK227.out 1).trans rfl) p_
 have hz2_ : ∀ p_ : Bel w8, p_.v.cell? ⟨gb228, 0, none⟩ = some (.int .i64 a1_0) := fun p_ => cell_bel ((blk_cell BK228.out 0).trans rfl) p_
 have hz3_ : ∀ p_ : Bel w8, p_.v.cell? ⟨gb228, 1, none⟩ = some (.int .i64 a1_1) := fun p_ => cell_bel ((blk_cell BK228.out 1).trans rfl) p_
 repeat (go_big_quiet_step (first
  | (with_reducible show Calls Try.prog 116 #[.agg #[.int .i64 a0_0, .int .i64 a0_1]] _ _; with_reducible exact calls_bel (impl_NodeCode.calls a0_0 a0_1 t229 _ A3.out))
  | (with_reducible show Calls Try.prog 116 #[.agg #[.int .i64 a1_0, .int .i64 a1_1]] _ _; with_reducible exact calls_bel (impl_NodeCode.calls a1_0 a1_1 t230 _ A4.out))
  | (with_reducible show Calls Try.prog 138 #[.int .i64 t229, .int .i64 t230] _ _; with_reducible exact calls_bel0 (cmp_Compare_int.calls t229 t230 t231 _ A5.out))))
 refine wpQuiet_nil ?_
 intro w10 hw'
 obtain ⟨⟨wq_, hb⟩, hw''⟩ := hw'
 subst hw''
 clear hbp_ hz0_ hz1_ hz2_ hz3_
 have n0_ := Aside0.mk (blk_belowD BK227.out hb rfl)
 have n1_ := Aside0.mk (blk_belowD BK228.out hb rfl)
 have n2_ := Aside0.mk (below_step (by repeat (first | (with_reducible first | exact HB.out | apply below_alloc | apply pw_below_drewN | apply below_drew1 | refine below_set ?_ GE227.out | refine below_set ?_ GE228.out) | exact HB.out)) hb)
 clear BK227
 clear BK228
 clear HB
 have BK227 := n0_
 have BK228 := n1_
 have HB := n2_
 clear n0_ n1_ n2_
 (try clear hb)
 (try clear hb2)
 (try clear hk)
 (try clear hi)
 try go_wp2
 go_ret
 exact ⟨by first | rfl | (simp [errW_none, errW_some] <;> rfl) | (simp [*, errW_none, errW_some] <;> rfl), by repeat (first | (with_reducible first | exact HB.out | apply below_alloc | apply pw_below_drewN | apply below_drew1 | refine below_set ?_ GE227.out | refine below_set ?_ GE228.out) | exact HB.out)⟩

/-! ### cmp_Or_int: function 142 -/
def cmp_Or_int.l0 : Nat → Int → List Int → Int → Int → Option (Int)
 | 0, _, _, _, _ => none
 | k + 1, x3, x6, x7, x8 => if x8 < x7 then (if 0 ≤ x8 then (if x8 < (x6.length : Int) then (if (rd x6 x8) = x3 then (cmp_Or_int.l0 k x3 x6 x7 (wrap64 (x8 + 1))) else (some (rd x6 x8))) else (none)) else (none)) else (some x3)
def cmp_Or_int.f (k : Nat) (l0 : List Int) : Option (Int) := cmp_Or_int.l0 k 0 l0 (l0.length : Int) 0
theorem cmp_Or_int.mono_l : ∀ k, (∀ y0 y1 y2 y3, LeO (cmp_Or_int.l0 k y0 y1 y2 y3) (cmp_Or_int.l0 (k + 1) y0 y1 y2 y3))
 | 0 => fun _ _ _ _ r h => by simp [cmp_Or_int.l0] at h
 | k + 1 => by
  have ih0 := cmp_Or_int.mono_l k
  ·intro y0 y1 y2 y3
   unfold cmp_Or_int.l0
   repeat' first
   | (with_reducible exact ih0 _ _ _ _)
   | (with_reducible exact LeO.refl _)
   | (with_reducible exact LeO.none _)
   | (with_reducible refine LeO.ite ?_ ?_)
   | (with_reducible refine LeO.bind ?_ (fun _ => ?_))
   | exact ih0 _ _ _ _
   | exact LeO.none _
   | refine LeO.ite ?_ ?_
   | refine LeO.bind ?_ (fun _ => ?_)
theorem cmp_Or_int.mono : ∀ a0 k, LeO (cmp_Or_int.f k a0) (cmp_Or_int.f (k + 1) a0) := by
 intro a0 k
 have ih0 := cmp_Or_int.mono_l k
 unfold cmp_Or_int.f
 repeat' first
   | (with_reducible exact ih0 _ _ _ _)
   | (with_reducible exact LeO.refl _)
   | (with_reducible exact LeO.none _)
   | (with_reducible refine LeO.ite ?_ ?_)
   | (with_reducible refine LeO.bind ?_ (fun _ => ?_))
   | exact ih0 _ _ _ _
   | exact LeO.none _
   | refine LeO.ite ?_ ?_
   | refine LeO.bind ?_ (fun _ => ?_)
set_option maxHeartbeats 8000000 in
set_option maxRecDepth 100000 in
theorem cmp_Or_int.calls (k : Nat) (A0 : Option Addr) (c0 : Nat) (l0 : List Int) (r : Int) (w : World) (hr0 : Kd.C (Kd.int .i64) w A0 l0.length l0) (hc0 : l0.length ≤ c0) (h : cmp_Or_int.f k l0 = some r) :
  Calls Try.prog 142 #[.slice A0 l0.length c0] w fun e w' => e = .returned (.int .i64 r) ∧ Drawn0 w w' := by
 have HR0 := Aside0.mk hr0
 have HC0 := Aside0.mk hc0
 clear hr0 hc0
 have H : (cmp_Or_int.l0 k 0 l0 (l0.length : Int) 0) = some r := h
 clear h
 have H' := Aside0.mk H
 clear H
 go_enter Try.func142, Try.ntmps142
 go_wp2
 go_loopg [8] k (fun kq v8 w' => ∃ (x8_1 : Int), v8 = .int .i64 x8_1 ∧ Aside0 (cmp_Or_int.l0 kq 0 l0 (l0.length : Int) x8_1 = some r) ∧ Aside0 (kq ≤ k) ∧ Drawn0 w w')
 case atStart => exact ⟨(0), (by first | rfl | (simp; done) | (simp [*]; done)), H', ⟨Nat.le_refl _⟩, by repeat (first | exact Drawn0.refl _ | apply Drawn0.step)⟩
 case round =>
  clear H'
  try clear c1
  obtain ⟨x8_1, rfl, HA, HK1, ⟨m1, rfl⟩⟩ := hrel
  cases gk with
  | zero => exact absurd HA.out (by simp [cmp_Or_int.l0])
  | succ k1 =>
   have H := HA.out
   clear HA
   simp only [cmp_Or_int.l0] at H
   by_cases c2 : x8_1 < (l0.length : Int)
   ·rw [if_pos c2] at H
    have c2b0 : decide (x8_1 < (l0.length : Int)) = true := decide_eq_true c2
    clear c2
    by_cases c3 : 0 ≤ x8_1
    ·rw [if_pos c3] at H
     have c3b0 : decide (0 ≤ x8_1) = true := decide_eq_true c3
     clear c3
     by_cases c4 : x8_1 < (l0.length : Int)
     ·rw [if_pos c4] at H
      have c4b0 : decide (x8_1 < (l0.length : Int)) = true := decide_eq_true c4
      clear c4
      by_cases c5 : (rd l0 x8_1) = 0
      ·rw [if_pos c5] at H
       have c5b0 : ((rd l0 x8_1) == 0) = true := beq_iff_eq.mpr c5
       have c5b1 : ((rd l0 x8_1) != 0) = false := bne_eq_false_iff_eq.mpr c5
       clear c5
       have H' := Aside0.mk H
       clear H
       have p232 : 0 ≤ (x8_1 : Int) := of_decide_eq_true (by first | (with_reducible assumption) | assumption)
       have q232 : x8_1 < (l0.length : Int) := of_decide_eq_true (by first | (with_reducible assumption) | assumption)
       obtain ⟨ad232, e232, hx232_0⟩ := Kd.at_int HR0.out x8_1 p232 q232
       cases e232
       replace p232 := eq_true p232
       replace q232 := eq_true q232
       go_wp2
       go_roundg k1
       case measure => have := HK1.out; omega
       case rel => exact ⟨(wrap64 (x8_1 + 1)), (by first | rfl | (simp; done) | (simp [*]; done)), H', ⟨by have := HK1.out; omega⟩, by repeat (first | exact Drawn0.refl _ | apply Drawn0.step)⟩
      ·rw [if_neg c5] at H
       have c5b0 : ((rd l0 x8_1) == 0) = false := beq_eq_false_iff_ne.mpr c5
       have c5b1 : ((rd l0 x8_1) != 0) = true := bne_iff_ne.mpr c5
       obtain rfl := Option.some.inj H
       have p232 : 0 ≤ (x8_1 : Int) := of_decide_eq_true (by first | (with_reducible assumption) | assumption)
       have q232 : x8_1 < (l0.length : Int) := of_decide_eq_true (by first | (with_reducible assumption) | assumption)
       obtain ⟨ad232, e232, hx232_0⟩ := Kd.at_int HR0.out x8_1 p232 q232
       cases e232
       replace p232 := eq_true p232
       replace q232 := eq_true q232
       go_wp2
       go_ret
       exact ⟨by first | rfl | (simp; done) | (simp [*]; done), by repeat (first | exact Drawn0.refl _ | apply Drawn0.step)⟩
     ·rw [if_neg c4] at H
      exact absurd H (by simp)
    ·rw [if_neg c3] at H
     exact absurd H (by simp)
   ·rw [if_neg c2] at H
    have c2b0 : decide (x8_1 < (l0.length : Int)) = false := decide_eq_false c2
    clear c2
    obtain rfl := Option.some.inj H
    go_wp2
    go_ret
    exact ⟨by first | rfl | (simp; done) | (simp [*]; done), by repeat (first | exact Drawn0.refl _ | apply Drawn0.step)⟩

end Go.Proofs.Ytohmemckdogljaa.QFnExactGraphView
