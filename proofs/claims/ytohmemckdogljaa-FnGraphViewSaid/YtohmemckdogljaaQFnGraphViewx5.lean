/- Contracts of the Go functions that this law reaches: each does what its plain Lean function says. No condition. -/
import Derived.Test.YtohmemckdogljaaQFnGraphViewx0
namespace Go.Proofs.Ytohmemckdogljaa.QFnGraphView
open Go.RowKit Go.Proofs.YtohmemckdogljaaW.PrintWords Go.Proofs.YtohmemckdogljaaW.PrintLast Go.Proofs.YtohmemckdogljaaW.PrintMore Go.Proofs.Ytohmemckdogljaa.Bl
attribute [local go_sem] max2_int min2_int max_two min_two max_three min_three max_four min_four   -- for this text's walks alone
set_option linter.unusedVariables false
set_option linter.unusedSimpArgs false
set_option maxHeartbeats 8000000
set_option maxRecDepth 100000

/-! ### impl_LabelOk: function 46 -/
def impl_LabelOk.f (a0 : Int) : Option (Bool) := if 0 ≤ a0 then (some (decide (a0 ≤ 7))) else (some false)
theorem impl_LabelOk.calls (a0 : Int) (r : Bool) (w : World) (h : impl_LabelOk.f a0 = some r) :
  Calls Try.prog 46 #[.int .i64 a0] w fun e w' => e = .returned (.bool r) ∧ Drawn0 w w' := by
 have H := h; unfold impl_LabelOk.f at H
 clear h
 by_cases c2 : 0 ≤ a0
 ·rw [if_pos c2] at H
  have c2b0 : decide (0 ≤ a0) = true := decide_eq_true c2
  clear c2
  obtain rfl := Option.some.inj H
  go_enter Try.func46, Try.ntmps46
  go_wp2
  go_ret
  exact ⟨eqs, drs⟩
 ·rw [if_neg c2] at H
  have c2b0 : decide (0 ≤ a0) = false := decide_eq_false c2
  clear c2
  obtain rfl := Option.some.inj H
  go_enter Try.func46, Try.ntmps46
  go_wp2
  go_ret
  exact ⟨eqs, drs⟩

/-! ### impl_letters_under: function 95 -/
def impl_letters_under.f (a0 : Int) (a1 : Int) : Option (Bool) := some ((Go.bits .andNot .u8 a0 a1) == 0)
theorem impl_letters_under.calls (a0 : Int) (a1 : Int) (r : Bool) (w : World) (h : impl_letters_under.f a0 a1 = some r) :
  Calls Try.prog 95 #[.int .u8 a0, .int .u8 a1] w fun e w' => e = .returned (.bool r) ∧ Drawn0 w w' := by
 have H := h; unfold impl_letters_under.f at H
 clear h
 obtain rfl := Option.some.inj H
 go_enter Try.func95, Try.ntmps95
 go_wp2
 go_ret
 exact ⟨eqs, drs⟩

/-! ### impl_LabelUnder: function 47 -/
def impl_LabelUnder.f (a0 : Int) (a1 : Int) : Option (Bool) := (impl_LabelOk.f a0).bind fun t120 => (if t120 = true then ((impl_LabelOk.f a1).bind fun t121 => (if t121 = true then ((impl_letters_under.f ((a0) % 256) ((a1) % 256)).bind fun t122 => (some t122)) else (some false))) else (some false))
theorem impl_LabelUnder.calls (a0 : Int) (a1 : Int) (r : Bool) (w : World) (h : impl_LabelUnder.f a0 a1 = some r) :
  Calls Try.prog 47 #[.int .i64 a0, .int .i64 a1] w fun e w' => e = .returned (.bool r) ∧ Drawn0 w w' := by
 have H := h; unfold impl_LabelUnder.f at H
 clear h
 replace H := Option.bind_eq_some_iff.mp H
 obtain ⟨t120, A30, H⟩ := H
 try dsimp -simprocs only at H
 have A3 := Aside0.mk A30
 clear A30
 by_cases c4 : t120 = true
 ·subst c4
  have H1 : ((impl_LabelOk.f a1).bind fun t121 => (if t121 = true then ((impl_letters_under.f ((a0) % 256) ((a1) % 256)).bind fun t122 => (some t122)) else (some false))) = some r := by rw [if_pos rfl] at H; exact H
  clear H
  have H := H1
  clear H1
  replace H := Option.bind_eq_some_iff.mp H
  obtain ⟨t121, A50, H⟩ := H
  try dsimp -simprocs only at H
  have A5 := Aside0.mk A50
  clear A50
  by_cases c6 : t121 = true
  ·subst c6
   have H1 : ((impl_letters_under.f ((a0) % 256) ((a1) % 256)).bind fun t122 => (some t122)) = some r := by rw [if_pos rfl] at H; exact H
   clear H
   have H := H1
   clear H1
   replace H := Option.bind_eq_some_iff.mp H
   obtain ⟨t122, A70, H⟩ := H
   try dsimp -simprocs only at H
   have A7 := Aside0.mk A70
   clear A70
   obtain rfl := Option.some.inj H
   go_enter Try.func47, Try.ntmps47
   go_wp2_with (first | ((with_reducible refine gc 46 rfl ?_); refine gl 6 Try.func46 #[.int .i64 a0] ?_; (with_reducible refine (impl_LabelOk.calls a0 true _ A3.out).mono ?_); rintro e w' ⟨rfl, ⟨nd, rfl⟩⟩; refine ⟨_, rfl, ?_⟩) | (go_at_call 46; (with_reducible refine (impl_LabelOk.calls a1 true _ A5.out).mono ?_); rintro e w' ⟨rfl, ⟨nd, rfl⟩⟩) | (go_at_call 95; (with_reducible refine (impl_letters_under.calls ((a0) % 256) ((a1) % 256) t122 _ A7.out).mono ?_); rintro e w' ⟨rfl, ⟨nd, rfl⟩⟩))
   go_ret
   exact ⟨eqs, drs⟩
  ·replace c6 := Bool.eq_false_iff.mpr c6
   subst c6
   have H1 : (some false) = some r := by rw [if_neg (show ¬ (false = true) by decide)] at H; exact H
   clear H
   have H := H1
   clear H1
   obtain rfl := Option.some.inj H
   go_enter Try.func47, Try.ntmps47
   go_wp2_with (first | ((with_reducible refine gc 46 rfl ?_); refine gl 6 Try.func46 #[.int .i64 a0] ?_; (with_reducible refine (impl_LabelOk.calls a0 true _ A3.out).mono ?_); rintro e w' ⟨rfl, ⟨nd, rfl⟩⟩; refine ⟨_, rfl, ?_⟩) | (go_at_call 46; (with_reducible refine (impl_LabelOk.calls a1 false _ A5.out).mono ?_); rintro e w' ⟨rfl, ⟨nd, rfl⟩⟩))
   go_ret
   exact ⟨eqs, drs⟩
 ·replace c4 := Bool.eq_false_iff.mpr c4
  subst c4
  have H1 : (some false) = some r := by rw [if_neg (show ¬ (false = true) by decide)] at H; exact H
  clear H
  have H := H1
  clear H1
  obtain rfl := Option.some.inj H
  go_enter Try.func47, Try.ntmps47
  go_wp2_with (first | ((with_reducible refine gc 46 rfl ?_); refine gl 6 Try.func46 #[.int .i64 a0] ?_; (with_reducible refine (impl_LabelOk.calls a0 false _ A3.out).mono ?_); rintro e w' ⟨rfl, ⟨nd, rfl⟩⟩; refine ⟨_, rfl, ?_⟩))
  go_ret
  exact ⟨eqs, drs⟩

/-! ### impl_NodeOk: function 92 -/
def impl_NodeOk.f (a0_0 : Int) (a0_1 : Int) : Option (Bool) := (impl_LabelOk.f a0_0).bind fun t124 => (if t124 = true then (if 0 ≤ a0_1 then (some (decide (a0_1 ≤ 40))) else (some false)) else (some false))
theorem impl_NodeOk.calls (a0_0 : Int) (a0_1 : Int) (r : Bool) (w : World) (h : impl_NodeOk.f a0_0 a0_1 = some r) :
  Calls Try.prog 92 #[.agg #[.int .i64 a0_0, .int .i64 a0_1]] w fun e w' => e = .returned (.bool r) ∧ Below w.heap.size w w' := by
 have hu36 := Try.underlying36
 have HB := Aside0.mk (Below.refl w.heap.size w)
 have H := h; unfold impl_NodeOk.f at H
 clear h
 replace H := Option.bind_eq_some_iff.mp H
 obtain ⟨t124, A20, H⟩ := H
 try dsimp -simprocs only at H
 have A2 := Aside0.mk A20
 clear A20
 by_cases c3 : t124 = true
 ·subst c3
  have H1 : (if 0 ≤ a0_1 then (some (decide (a0_1 ≤ 40))) else (some false)) = some r := by rw [if_pos rfl] at H; exact H
  clear H
  have H := H1
  clear H1
  by_cases c4 : 0 ≤ a0_1
  ·rw [if_pos c4] at H
   have c4b0 : decide (0 ≤ a0_1) = true := decide_eq_true c4
   clear c4
   obtain rfl := Option.some.inj H
   go_enter Try.func92, Try.ntmps92
   go_wp2_with (first | ((with_reducible refine gd 1 rfl ?_); refine bx 1 (cs := #[.int .i64 a0_0, .int .i64 a0_1]) (t := 36) ?_; intro gb123 hg w5 hbox hb; have BK123 := Aside0.mk (hbox); have GW123 := gwb HB hg; replace HB := hs HB hb; clear hb hbox hg; obtain ⟨hcz6_0, hcz6_1⟩ := bc2 (w := w5) BK123.out; have hfz6 := blk_frozen BK123.out) | ((with_reducible refine gc 46 rfl ?_); refine gl 5 Try.func46 #[.int .i64 a0_0] ?_; (with_reducible refine (impl_LabelOk.calls a0_0 true _ A2.out).mono ?_); rintro e w' ⟨rfl, ⟨nd, rfl⟩⟩; refine ⟨_, rfl, ?_⟩))
   go_ret
   exact ⟨eqr, bs HB.out⟩
  ·rw [if_neg c4] at H
   have c4b0 : decide (0 ≤ a0_1) = false := decide_eq_false c4
   clear c4
   obtain rfl := Option.some.inj H
   go_enter Try.func92, Try.ntmps92
   go_wp2_with (first | ((with_reducible refine gd 1 rfl ?_); refine bx 1 (cs := #[.int .i64 a0_0, .int .i64 a0_1]) (t := 36) ?_; intro gb123 hg w7 hbox hb; have BK123 := Aside0.mk (hbox); have GW123 := gwb HB hg; replace HB := hs HB hb; clear hb hbox hg; obtain ⟨hcz8_0, hcz8_1⟩ := bc2 (w := w7) BK123.out; have hfz8 := blk_frozen BK123.out) | ((with_reducible refine gc 46 rfl ?_); refine gl 5 Try.func46 #[.int .i64 a0_0] ?_; (with_reducible refine (impl_LabelOk.calls a0_0 true _ A2.out).mono ?_); rintro e w' ⟨rfl, ⟨nd, rfl⟩⟩; refine ⟨_, rfl, ?_⟩))
   go_ret
   exact ⟨eqr, bs HB.out⟩
 ·replace c3 := Bool.eq_false_iff.mpr c3
  subst c3
  have H1 : (some false) = some r := by rw [if_neg (show ¬ (false = true) by decide)] at H; exact H
  clear H
  have H := H1
  clear H1
  obtain rfl := Option.some.inj H
  go_enter Try.func92, Try.ntmps92
  go_wp2_with (first | ((with_reducible refine gd 1 rfl ?_); refine bx 1 (cs := #[.int .i64 a0_0, .int .i64 a0_1]) (t := 36) ?_; intro gb123 hg w9 hbox hb; have BK123 := Aside0.mk (hbox); have GW123 := gwb HB hg; replace HB := hs HB hb; clear hb hbox hg; obtain ⟨hcz10_0, hcz10_1⟩ := bc2 (w := w9) BK123.out; have hfz10 := blk_frozen BK123.out) | ((with_reducible refine gc 46 rfl ?_); refine gl 5 Try.func46 #[.int .i64 a0_0] ?_; (with_reducible refine (impl_LabelOk.calls a0_0 false _ A2.out).mono ?_); rintro e w' ⟨rfl, ⟨nd, rfl⟩⟩; refine ⟨_, rfl, ?_⟩))
  go_ret
  exact ⟨eqr, bs HB.out⟩

/-! ### impl_NodeCode: function 116 -/
def impl_NodeCode.f (a0_0 : Int) (a0_1 : Int) : Option (Int) := (impl_NodeOk.f a0_0 a0_1).bind fun t126 => (if t126 = true then (some (wrap64 ((wrap64 (64 * a0_0)) + a0_1))) else (some (-1)))
theorem impl_NodeCode.calls (a0_0 : Int) (a0_1 : Int) (r : Int) (w : World) (h : impl_NodeCode.f a0_0 a0_1 = some r) :
  Calls Try.prog 116 #[.agg #[.int .i64 a0_0, .int .i64 a0_1]] w fun e w' => e = .returned (.int .i64 r) ∧ Below w.heap.size w w' := by
 have hu36 := Try.underlying36
 have HB := Aside0.mk (Below.refl w.heap.size w)
 have H := h; unfold impl_NodeCode.f at H
 clear h
 replace H := Option.bind_eq_some_iff.mp H
 obtain ⟨t126, A20, H⟩ := H
 try dsimp -simprocs only at H
 have A2 := Aside0.mk A20
 clear A20
 by_cases c3 : t126 = true
 ·subst c3
  have H1 : (some (wrap64 ((wrap64 (64 * a0_0)) + a0_1))) = some r := by rw [if_pos rfl] at H; exact H
  clear H
  have H := H1
  clear H1
  obtain rfl := Option.some.inj H
  go_enter Try.func116, Try.ntmps116
  go_wp2_with (first | ((with_reducible refine gd 1 rfl ?_); refine bx 1 (cs := #[.int .i64 a0_0, .int .i64 a0_1]) (t := 36) ?_; intro gb125 hg w4 hbox hb; have BK125 := Aside0.mk (hbox); have GW125 := gwb HB hg; replace HB := hs HB hb; clear hb hbox hg; obtain ⟨hcz5_0, hcz5_1⟩ := bc2 (w := w4) BK125.out; have hfz5 := blk_frozen BK125.out) | ((with_reducible refine gc 92 rfl ?_); refine gl 4 Try.func92 #[.agg #[.int .i64 a0_0, .int .i64 a0_1]] ?_; (with_reducible refine (impl_NodeOk.calls a0_0 a0_1 true _ A2.out).mono ?_); rintro e w6 ⟨rfl, hb⟩; refine ⟨_, rfl, ?_⟩; replace BK125 := bb BK125 hb rfl; replace HB := hs HB hb; (try clear hb); obtain ⟨hcz7_0, hcz7_1⟩ := bc2 (w := w6) BK125.out; have hfz7 := blk_frozen BK125.out))
  go_ret
  exact ⟨eqr, bs HB.out⟩
 ·replace c3 := Bool.eq_false_iff.mpr c3
  subst c3
  have H1 : (some (-1)) = some r := by rw [if_neg (show ¬ (false = true) by decide)] at H; exact H
  clear H
  have H := H1
  clear H1
  obtain rfl := Option.some.inj H
  go_enter Try.func116, Try.ntmps116
  go_wp2_with (first | ((with_reducible refine gd 1 rfl ?_); refine bx 1 (cs := #[.int .i64 a0_0, .int .i64 a0_1]) (t := 36) ?_; intro gb125 hg w8 hbox hb; have BK125 := Aside0.mk (hbox); have GW125 := gwb HB hg; replace HB := hs HB hb; clear hb hbox hg; obtain ⟨hcz9_0, hcz9_1⟩ := bc2 (w := w8) BK125.out; have hfz9 := blk_frozen BK125.out) | ((with_reducible refine gc 92 rfl ?_); refine gl 4 Try.func92 #[.agg #[.int .i64 a0_0, .int .i64 a0_1]] ?_; (with_reducible refine (impl_NodeOk.calls a0_0 a0_1 false _ A2.out).mono ?_); rintro e w10 ⟨rfl, hb⟩; refine ⟨_, rfl, ?_⟩; replace BK125 := bb BK125 hb rfl; replace HB := hs HB hb; (try clear hb)))
  go_ret
  exact ⟨eqr, bs HB.out⟩

/-! ### impl_EdgeOk: function 93 -/
theorem iIs (a : Int) : impl_LabelOk.f a = some (isL a) := by
  unfold impl_LabelOk.f isL
  by_cases h : 0 ≤ a
  · rw [if_pos h]; simp [h]
  · rw [if_neg h]; simp [h]
theorem iU8 : ∀ a b : Fin 8, impl_LabelUnder.f (a.val : Int) (b.val : Int) = some (U a.val b.val) := by decide +kernel
theorem iU (a b : Int) : impl_LabelUnder.f a b = some (U a b) := by
  by_cases ha : isL a = true
  · by_cases hb : isL b = true
    · obtain ⟨x, rfl⟩ := fin8 ha
      obtain ⟨y, rfl⟩ := fin8 hb
      exact iU8 x y
    · simp [impl_LabelUnder.f, iIs, U, ha, hb]
  · simp [impl_LabelUnder.f, iIs, U, ha]
theorem iN (a b : Int) : impl_NodeOk.f a b = some (nOk a b) := by
  unfold impl_NodeOk.f
  rw [iIs]
  cases h : isL a
  · simp [nOk, h]
  · by_cases hb : 0 ≤ b
    · simp [nOk, h, hb]
    · simp [nOk, h, hb]
theorem iC (a b : Int) : impl_NodeCode.f a b = some (Cd a b) := by
  unfold impl_NodeCode.f Cd
  rw [iN]
  cases h : nOk a b
  · simp
  · have h' := nOk_iff.1 h
    simp only [Option.bind_some, if_true, w64 (x := 64 * a) (by omega), w64 (x := 64 * a + b) (by omega)]
def impl_EdgeOk.f (a0_0 : Int) (a0_1 : Int) (a0_2 : Int) (a0_3 : Int) (a0_4 : Int) : Option (Bool) := some (EOk a0_0 a0_1 a0_2 a0_3 a0_4)
set_option maxHeartbeats 8000000 in
set_option maxRecDepth 100000 in
theorem impl_EdgeOk.calls (a0_0 : Int) (a0_1 : Int) (a0_2 : Int) (a0_3 : Int) (a0_4 : Int) (r : Bool) (w : World) (h : impl_EdgeOk.f a0_0 a0_1 a0_2 a0_3 a0_4 = some r) :
    Calls Try.prog 93 #[.agg #[.int .i64 a0_0, .int .i64 a0_1, .int .i64 a0_2, .int .i64 a0_3, .int .i64 a0_4]] w fun e w' => e = .returned (.bool r) ∧ Below w.heap.size w w' := by
  have hu56 := Try.underlying56
  have hu36 := Try.underlying36
  have HB := Aside0.mk (Below.refl w.heap.size w)
  obtain rfl := Option.some.inj h
  clear h
  have F : ∀ (b1 b2 b3 b4 b5 b6 : Bool), isL a0_0 = b1 → nOk a0_1 a0_2 = b2 → nOk a0_3 a0_4 = b3 → decide (Cd a0_1 a0_2 < Cd a0_3 a0_4) = b4 → U a0_1 a0_0 = b5 → U a0_3 a0_0 = b6 →
      Calls Try.prog 93 #[.agg #[.int .i64 a0_0, .int .i64 a0_1, .int .i64 a0_2, .int .i64 a0_3, .int .i64 a0_4]] w fun e w' => e = .returned (.bool (b1 && (b2 && (b3 && (b4 && (b5 && b6)))))) ∧ Below w.heap.size w w' := by
    intro b1 b2 b3 b4 b5 b6 h1 h2 h3 h4 h5 h6
    have A1 := Aside0.mk ((iIs a0_0).trans (congrArg some h1))
    have A2 := Aside0.mk ((iN a0_1 a0_2).trans (congrArg some h2))
    have A3 := Aside0.mk ((iN a0_3 a0_4).trans (congrArg some h3))
    have A5 := Aside0.mk ((iU a0_1 a0_0).trans (congrArg some h5))
    have A6 := Aside0.mk ((iU a0_3 a0_0).trans (congrArg some h6))
    clear h1 h2 h3 h5 h6
    go_enter Try.func93, Try.ntmps93
    go_wp2_with (first | ((with_reducible refine gate_dst (N := 1) rfl ?_); refine box_event ?hg (N := 1) ?hd (cs := #[.int .i64 a0_0, .int .i64 a0_1, .int .i64 a0_2, .int .i64 a0_3, .int .i64 a0_4]) (t := 56) ?hr ?_; (case hd => rfl); (case hg => rfl); (case hr => first | (go_simp; done) | (go_simp; rfl)); intro gb hg w3 hbox hb; have n0_ := Aside0.mk (below_step HB.out hb); clear HB; have HB := n0_; clear n0_ hg hb))
    have hz0 : ∀ p : Bel w3, p.v.cell? ⟨gb, 0, none⟩ = some (.int .i64 a0_0) := fun p => cell_bel ((blk_cell hbox 0).trans rfl) p
    have hz1 : ∀ p : Bel w3, p.v.cell? ⟨gb, 1, none⟩ = some (.int .i64 a0_1) := fun p => cell_bel ((blk_cell hbox 1).trans rfl) p
    have hz2 : ∀ p : Bel w3, p.v.cell? ⟨gb, 2, none⟩ = some (.int .i64 a0_2) := fun p => cell_bel ((blk_cell hbox 2).trans rfl) p
    have hz3 : ∀ p : Bel w3, p.v.cell? ⟨gb, 3, none⟩ = some (.int .i64 a0_3) := fun p => cell_bel ((blk_cell hbox 3).trans rfl) p
    have hz4 : ∀ p : Bel w3, p.v.cell? ⟨gb, 4, none⟩ = some (.int .i64 a0_4) := fun p => cell_bel ((blk_cell hbox 4).trans rfl) p
    clear hbox
    refine wp_region_bel0 (by kernel_rfl) (by kernel_rfl) ?_
    rcases path6 b1 b2 b3 b4 b5 b6 with rfl | ⟨rfl, rfl⟩ | ⟨rfl, rfl, rfl⟩ | ⟨rfl, rfl, rfl, rfl⟩ | ⟨rfl, rfl, rfl, rfl, rfl⟩ | ⟨rfl, rfl, rfl, rfl, rfl, rfl⟩ | ⟨rfl, rfl, rfl, rfl, rfl, rfl⟩ <;>
    (repeat (go_big_quiet_step (first
        | with_reducible exact calls_bel0 (impl_LabelOk.calls _ _ _ A1.out)
        | with_reducible exact calls_bel (impl_NodeOk.calls a0_1 a0_2 _ _ A2.out)
        | with_reducible exact calls_bel (impl_NodeOk.calls a0_3 a0_4 _ _ A3.out)
        | with_reducible exact calls_bel (impl_NodeCode.calls a0_1 a0_2 _ _ (iC a0_1 a0_2))
        | with_reducible exact calls_bel (impl_NodeCode.calls a0_3 a0_4 _ _ (iC a0_3 a0_4))
        | with_reducible exact calls_bel0 (impl_LabelUnder.calls a0_1 a0_0 _ _ A5.out)
        | with_reducible exact calls_bel0 (impl_LabelUnder.calls a0_3 a0_0 _ _ A6.out)))
     refine wpQuiet_nil ?_
     intro _ hw'
     obtain ⟨⟨wq, hbq⟩, hw''⟩ := hw'
     subst hw''
     go_wp2
     go_ret
     exact ⟨by first | rfl | (simp; done) | (simp [*]; done), below_step HB.out hbq⟩)
  have G := F _ _ _ _ _ _ rfl rfl rfl rfl rfl rfl
  have e : EOk a0_0 a0_1 a0_2 a0_3 a0_4 = (isL a0_0 && (nOk a0_1 a0_2 && (nOk a0_3 a0_4 && (decide (Cd a0_1 a0_2 < Cd a0_3 a0_4) && (U a0_1 a0_0 && U a0_3 a0_0))))) := by
    unfold EOk Cd
    cases h1 : nOk a0_1 a0_2
    · simp
    · cases h2 : nOk a0_3 a0_4
      · simp
      · simp
  rw [e]
  exact G

/-! ### impl_nodesOk: function 81 -/
/-- Counts, as the cells of an array. -/
def cts (m : List Int) : Array Value := (m.map fun x => Value.int .i64 x).toArray
theorem cts_get (m : List Int) (i : Nat) (h : i < m.length) : (cts m)[i]? = some (.int .i64 (rd m i)) := by
  simp [cts, rd, h]
theorem cts_set (m : List Int) (i : Nat) (x : Int) : (cts m).setIfInBounds i (.int .i64 x) = cts (m.set i x) := by
  simp [cts, List.map_set]
def impl_nodesOk.l0 : Nat → List S36 → Int → List Int → Int → Option Bool
  | 0, _, _, _, _ => none
  | k + 1, xs, last, m, i => if i < (xs.length : Int) then (if 0 ≤ i then (if Cd (rd_T36 xs i).f0 (rd_T36 xs i).f1 ≤ last then some false else (if rd m (rd_T36 xs i).f0 = 5 then some false else impl_nodesOk.l0 k xs (Cd (rd_T36 xs i).f0 (rd_T36 xs i).f1) (m.set ((rd_T36 xs i).f0).toNat (wrap64 (rd m (rd_T36 xs i).f0 + 1))) (wrap64 (i + 1)))) else none) else some true
def impl_nodesOk.f (k : Nat) (l0 : List S36) : Option Bool := impl_nodesOk.l0 k l0 (-1) [0, 0, 0, 0, 0, 0, 0, 0] 0
set_option maxHeartbeats 8000000 in
set_option maxRecDepth 100000 in
theorem impl_nodesOk.calls (k : Nat) (A0 : Option Addr) (c0 : Nat) (l0 : List S36) (r : Bool) (w : World) (hr0 : Kd.C k36 w A0 l0.length l0) (hc0 : l0.length ≤ c0) (h : impl_nodesOk.f k l0 = some r) :
    Calls Try.prog 81 #[.slice A0 l0.length c0] w fun e w' => e = .returned (.bool r) ∧ Below w.heap.size w w' := by
  have hu36 := Try.underlying36
  have hu122 := Try.underlying122
  have HR0 := Aside0.mk hr0
  have HC0 := Aside0.mk hc0
  clear hr0 hc0
  have HB := Aside0.mk (Below.refl w.heap.size w)
  have H' := Aside0.mk (show impl_nodesOk.l0 k l0 (-1) [0, 0, 0, 0, 0, 0, 0, 0] 0 = some r from h)
  clear h
  go_enter Try.func81, Try.ntmps81
  go_wp2_with (first | ((with_reducible refine gate_dst (N := 3) rfl ?_); refine box_event ?hg (N := 3) ?hd (cs := cts [0, 0, 0, 0, 0, 0, 0, 0]) (t := 122) ?hr ?_; (case hd => rfl); (case hg => rfl); (case hr => first | (go_simp; done) | (go_simp; rfl)); intro gb hg w3 hbox hb; have n0_ := Aside0.mk (below_step HB.out hb); have n1_ := Aside0.mk hbox; have n2_ := Aside0.mk ((by rw [hg]; exact (below_size (by repeat (first | (with_reducible first | exact HB.out | apply below_alloc | apply pw_below_drewN | apply below_drew1) | exact HB.out))) : w.heap.size ≤ gb)); clear HB; have HB := n0_; have BK := n1_; have GE := n2_; clear n0_ n1_ n2_ hg hb hbox))
  go_loopg [4, 10] k (fun kq v4 v10 w' => ∃ (x4 x10 : Int) (m : List Int), v4 = .int .i64 x4 ∧ v10 = .int .i64 x10 ∧ Aside0 (impl_nodesOk.l0 kq l0 x4 m x10 = some r) ∧ Aside0 (-1 ≤ x4 ∧ m.length = 8) ∧ Aside0 (kq ≤ k) ∧ Aside0 (w'.heap[gb]? = some (.cells (cts m) 122 (0, 0))) ∧ Aside0 (Below w.heap.size w w'))
  case atStart => exact ⟨-1, 0, [0, 0, 0, 0, 0, 0, 0, 0], (by first | rfl | (simp; done) | (simp [*]; done)), (by first | rfl | (simp; done) | (simp [*]; done)), H', ⟨by omega, rfl⟩, ⟨Nat.le_refl _⟩, ⟨by (with_reducible repeat (first | refine blk_drewN ?_ _ | refine blk_drew ?_ | refine blk_alloc ?_ _)); exact BK.out⟩, ⟨by repeat (first | (with_reducible first | exact HB.out | apply below_alloc | apply pw_below_drewN | apply below_drew1 | refine below_set ?_ GE.out) | exact HB.out)⟩⟩
  case round =>
    clear H'
    obtain ⟨x4, x10, m, rfl, rfl, HA, HM, HK1, BK, HB⟩ := hrel
    cases gk with
    | zero => exact absurd HA.out (by simp [impl_nodesOk.l0])
    | succ k1 =>
      have H := HA.out
      clear HA
      simp only [impl_nodesOk.l0] at H
      by_cases c1 : x10 < (l0.length : Int)
      · rw [if_pos c1] at H
        have c1b0 : decide (x10 < (l0.length : Int)) = true := decide_eq_true c1
        by_cases c2 : 0 ≤ x10
        · rw [if_pos c2] at H
          have p0 := c2
          have q0 := c1
          obtain ⟨ad, ea, hx0, hx1⟩ := at_T36 HR0.out x10 p0 q0
          cases ea
          replace hx0 := (HB.out.cell (World.block_lt_of_cell? w _ hx0)).trans hx0
          replace hx1 := (HB.out.cell (World.block_lt_of_cell? w _ hx1)).trans hx1
          replace p0 := eq_true p0
          replace q0 := eq_true q0
          generalize (rd_T36 l0 x10).f0 = f0 at H hx0 hx1
          generalize (rd_T36 l0 x10).f1 = f1 at H hx0 hx1
          clear c1 c2
          go_wp2_with (first | ((with_reducible refine gate_dst (N := 6) rfl ?_); refine box_event ?hg (N := 6) ?hd (cs := #[.int .i64 0, .int .i64 0]) (t := 36) ?hr ?_; (case hd => rfl); (case hg => rfl); (case hr => first | (go_simp; done) | (go_simp; rfl)); intro gn hg w5 hbox hb; have n0_ := Aside0.mk (blk_below (g := gb) (by (with_reducible repeat (first | refine blk_drewN ?_ _ | refine blk_drew ?_ | refine blk_alloc ?_ _)); exact BK.out) hb); have n1_ := Aside0.mk (below_step (by repeat (first | (with_reducible first | exact HB.out | apply below_alloc | apply pw_below_drewN | apply below_drew1 | refine below_set ?_ GE.out) | exact HB.out)) hb); have n2_ := Aside0.mk hbox; have n3_ := Aside0.mk ((by rw [hg]; exact (below_size (by repeat (first | (with_reducible first | exact HB.out | apply below_alloc | apply pw_below_drewN | apply below_drew1 | refine below_set ?_ GE.out) | exact HB.out))) : w.heap.size ≤ gn)); have n4_ := Aside0.mk ((by rw [hg]; exact Nat.ne_of_lt (blk_lt (g := gb) (by (with_reducible repeat (first | refine blk_drewN ?_ _ | refine blk_drew ?_ | refine blk_alloc ?_ _)); exact BK.out)) : gb ≠ gn)); clear BK HB; have BK := n0_; have HB := n1_; have BN := n2_; have GN := n3_; have NE := n4_; clear n0_ n1_ n2_ n3_ n4_; clear hb hbox hg; have hcz0 : w5.cell? ⟨gn, 0, none⟩ = some (.int .i64 0) := (blk_cell BN.out 0).trans rfl; have hcz1 : w5.cell? ⟨gn, 1, none⟩ = some (.int .i64 0) := (blk_cell BN.out 1).trans rfl; have hfz0 := blk_frozen BN.out 0; have hfz1 := blk_frozen BN.out 1))
          have n0_ := Aside0.mk (blk_far (blk_far BK.out (p := ⟨gn, 0, none⟩) NE.out (.int .i64 f0)) (p := ⟨gn, 1, none⟩) NE.out (.int .i64 f1))
          have n1_ := Aside0.mk (blk_put (cs' := #[.int .i64 f0, .int .i64 f1]) (blk_put (cs' := #[.int .i64 f0, .int .i64 0]) BN.out 0 (.int .i64 f0) rfl) 1 (.int .i64 f1) rfl)
          have n2_ := Aside0.mk (below_set (j := 1) (v := .int .i64 f1) (below_set (j := 0) (v := .int .i64 f0) HB.out GN.out) GN.out)
          clear BK BN HB hcz0 hcz1 hfz0 hfz1
          have BK := n0_
          have BN := n1_
          have HB := n2_
          clear n0_ n1_ n2_
          generalize (w5.setCell ⟨gn, 0, none⟩ (.int .i64 f0)).setCell ⟨gn, 1, none⟩ (.int .i64 f1) = w6 at BK BN HB ⊢
          refine (impl_NodeCode.calls _ _ _ _ (iC _ _)).mono ?_
          rintro e w7 ⟨rfl, hb⟩
          have n0_ := Aside0.mk (blk_below BK.out hb)
          have n1_ := Aside0.mk (blk_below BN.out hb)
          have n2_ := Aside0.mk (below_step HB.out hb)
          clear BK BN HB hb
          have BK := n0_
          have BN := n1_
          have HB := n2_
          clear n0_ n1_ n2_
          have hcz0 : w7.cell? ⟨gn, 0, none⟩ = some (.int .i64 f0) := (blk_cell BN.out 0).trans rfl
          have hcz1 : w7.cell? ⟨gn, 1, none⟩ = some (.int .i64 f1) := (blk_cell BN.out 1).trans rfl
          by_cases c3 : Cd f0 f1 ≤ x4
          · rw [if_pos c3] at H
            have c3b0 : decide (Cd f0 f1 ≤ x4) = true := decide_eq_true c3
            clear c3
            obtain rfl := Option.some.inj H
            go_wp2
            go_ret
            exact ⟨by first | rfl | (simp; done) | (simp [*]; done), by repeat (first | (with_reducible first | exact HB.out | apply below_alloc | apply pw_below_drewN | apply below_drew1) | exact HB.out)⟩
          · rw [if_neg c3] at H
            have c3b0 : decide (Cd f0 f1 ≤ x4) = false := decide_eq_false c3
            have hok := Cd_ok (a := f0) (b := f1) (by have := HM.out.1; omega)
            obtain ⟨j, rfl⟩ := Int.eq_ofNat_of_zero_le hok.2.1
            have hj8 : j < 8 := by omega
            have hjm : j < m.length := by have := HM.out.2; omega
            have hcm : w7.cell? ⟨gb, j, none⟩ = some (.int .i64 (rd m j)) := (blk_cell BK.out j).trans (cts_get m j hjm)
            have hfm := blk_frozen BK.out j
            have hlo : (0 ≤ (j : Int)) = True := eq_true (by omega)
            have hhi : ((j : Int) < 8) = True := eq_true (by omega)
            have hC0 : -1 ≤ Cd (j : Int) f1 := by rw [hok.1]; omega
            clear c3 hok
            by_cases c4 : rd m (j : Int) = 5
            · rw [if_pos c4] at H
              have c4b0 : (rd m (j : Int) == 5) = true := beq_iff_eq.mpr c4
              clear c4
              obtain rfl := Option.some.inj H
              go_wp2
              go_ret
              exact ⟨by first | rfl | (simp; done) | (simp [*]; done), by repeat (first | (with_reducible first | exact HB.out | apply below_alloc | apply pw_below_drewN | apply below_drew1) | exact HB.out)⟩
            · rw [if_neg c4] at H
              have c4b0 : (rd m (j : Int) == 5) = false := beq_eq_false_iff_ne.mpr c4
              clear c4
              have H' := Aside0.mk H
              clear H
              go_wp2
              go_roundg k1
              case measure => have := HK1.out; omega
              case rel => exact ⟨Cd (j : Int) f1, wrap64 (x10 + 1), m.set j (wrap64 (rd m (j : Int) + 1)), (by first | rfl | (simp; done) | (simp [*]; done)), (by first | rfl | (simp; done) | (simp [*]; done)), ⟨by simpa using H'.out⟩, ⟨hC0, by simpa using HM.out.2⟩, ⟨by have := HK1.out; omega⟩, ⟨by refine blk_put ?_ j _ (cts_set m j _); exact BK.out⟩, ⟨by refine below_set ?_ GE.out; exact HB.out⟩⟩
        · rw [if_neg c2] at H; cases H
      · rw [if_neg c1] at H
        have c1b0 : decide (x10 < (l0.length : Int)) = false := decide_eq_false c1
        clear c1
        obtain rfl := Option.some.inj H
        go_wp2
        go_ret
        exact ⟨by first | rfl | (simp; done) | (simp [*]; done), by repeat (first | (with_reducible first | exact HB.out | apply below_alloc | apply pw_below_drewN | apply below_drew1 | refine below_set ?_ GE.out) | exact HB.out)⟩

/-! ### cmp_isNaN_int: function 160 -/
def cmp_isNaN_int.f (a0 : Int) : Option (Bool) := some (a0 != a0)
theorem cmp_isNaN_int.calls (a0 : Int) (r : Bool) (w : World) (h : cmp_isNaN_int.f a0 = some r) :
  Calls Try.prog 160 #[.int .i64 a0] w fun e w' => e = .returned (.bool r) ∧ Drawn0 w w' := by
 have H := h; unfold cmp_isNaN_int.f at H
 clear h
 obtain rfl := Option.some.inj H
 go_enter Try.func160, Try.ntmps160
 go_wp2
 go_ret
 exact ⟨eqs, drs⟩

/-! ### cmp_Compare_int: function 138 -/
def cmp_Compare_int.f (a0 : Int) (a1 : Int) : Option (Int) := (cmp_isNaN_int.f a0).bind fun t127 => ((cmp_isNaN_int.f a1).bind fun t128 => (if t127 = true then (if t128 = true then (some 0) else (some (-1))) else (if t128 = true then (some 1) else (if a0 < a1 then (some (-1)) else (if a0 > a1 then (some 1) else (some 0))))))
theorem cmp_Compare_int.calls (a0 : Int) (a1 : Int) (r : Int) (w : World) (h : cmp_Compare_int.f a0 a1 = some r) :
  Calls Try.prog 138 #[.int .i64 a0, .int .i64 a1] w fun e w' => e = .returned (.int .i64 r) ∧ Drawn0 w w' := by
 have H := h; unfold cmp_Compare_int.f at H
 clear h
 replace H := Option.bind_eq_some_iff.mp H
 obtain ⟨t127, A30, H⟩ := H
 try dsimp -simprocs only at H
 have A3 := Aside0.mk A30
 clear A30
 replace H := Option.bind_eq_some_iff.mp H
 obtain ⟨t128, A40, H⟩ := H
 try dsimp -simprocs only at H
 have A4 := Aside0.mk A40
 clear A40
 by_cases c5 : t127 = true
 ·subst c5
  have H1 : (if t128 = true then (some 0) else (some (-1))) = some r := by rw [if_pos rfl] at H; exact H
  clear H
  have H := H1
  clear H1
  by_cases c6 : t128 = true
  ·subst c6
   have H1 : (some 0) = some r := by rw [if_pos rfl] at H; exact H
   clear H
   have H := H1
   clear H1
   obtain rfl := Option.some.inj H
   go_enter Try.func138, Try.ntmps138
   go_wp2_with (first | ((with_reducible refine gc 160 rfl ?_); refine gl 8 Try.func160 #[.int .i64 a0] ?_; (with_reducible refine (cmp_isNaN_int.calls a0 true _ A3.out).mono ?_); rintro e w' ⟨rfl, ⟨nd, rfl⟩⟩; refine ⟨_, rfl, ?_⟩) | ((with_reducible refine gc 160 rfl ?_); refine gl 10 Try.func160 #[.int .i64 a1] ?_; (with_reducible refine (cmp_isNaN_int.calls a1 true _ A4.out).mono ?_); rintro e w' ⟨rfl, ⟨nd, rfl⟩⟩; refine ⟨_, rfl, ?_⟩))
   go_ret
   exact ⟨eqs, drs⟩
  ·replace c6 := Bool.eq_false_iff.mpr c6
   subst c6
   have H1 : (some (-1)) = some r := by rw [if_neg (show ¬ (false = true) by decide)] at H; exact H
   clear H
   have H := H1
   clear H1
   obtain rfl := Option.some.inj H
   go_enter Try.func138, Try.ntmps138
   go_wp2_with (first | ((with_reducible refine gc 160 rfl ?_); refine gl 8 Try.func160 #[.int .i64 a0] ?_; (with_reducible refine (cmp_isNaN_int.calls a0 true _ A3.out).mono ?_); rintro e w' ⟨rfl, ⟨nd, rfl⟩⟩; refine ⟨_, rfl, ?_⟩) | ((with_reducible refine gc 160 rfl ?_); refine gl 10 Try.func160 #[.int .i64 a1] ?_; (with_reducible refine (cmp_isNaN_int.calls a1 false _ A4.out).mono ?_); rintro e w' ⟨rfl, ⟨nd, rfl⟩⟩; refine ⟨_, rfl, ?_⟩))
   go_ret
   exact ⟨eqs, drs⟩
 ·replace c5 := Bool.eq_false_iff.mpr c5
  subst c5
  have H1 : (if t128 = true then (some 1) else (if a0 < a1 then (some (-1)) else (if a0 > a1 then (some 1) else (some 0)))) = some r := by rw [if_neg (show ¬ (false = true) by decide)] at H; exact H
  clear H
  have H := H1
  clear H1
  by_cases c7 : t128 = true
  ·subst c7
   have H1 : (some 1) = some r := by rw [if_pos rfl] at H; exact H
   clear H
   have H := H1
   clear H1
   obtain rfl := Option.some.inj H
   go_enter Try.func138, Try.ntmps138
   go_wp2_with (first | ((with_reducible refine gc 160 rfl ?_); refine gl 8 Try.func160 #[.int .i64 a0] ?_; (with_reducible refine (cmp_isNaN_int.calls a0 false _ A3.out).mono ?_); rintro e w' ⟨rfl, ⟨nd, rfl⟩⟩; refine ⟨_, rfl, ?_⟩) | ((with_reducible refine gc 160 rfl ?_); refine gl 10 Try.func160 #[.int .i64 a1] ?_; (with_reducible refine (cmp_isNaN_int.calls a1 true _ A4.out).mono ?_); rintro e w' ⟨rfl, ⟨nd, rfl⟩⟩; refine ⟨_, rfl, ?_⟩))
   go_ret
   exact ⟨eqs, drs⟩
  ·replace c7 := Bool.eq_false_iff.mpr c7
   subst c7
   have H1 : (if a0 < a1 then (some (-1)) else (if a0 > a1 then (some 1) else (some 0))) = some r := by rw [if_neg (show ¬ (false = true) by decide)] at H; exact H
   clear H
   have H := H1
   clear H1
   by_cases c8 : a0 < a1
   ·rw [if_pos c8] at H
    have c8b0 : decide (a0 < a1) = true := decide_eq_true c8
    clear c8
    obtain rfl := Option.some.inj H
    go_enter Try.func138, Try.ntmps138
    go_wp2_with (first | ((with_reducible refine gc 160 rfl ?_); refine gl 8 Try.func160 #[.int .i64 a0] ?_; (with_reducible refine (cmp_isNaN_int.calls a0 false _ A3.out).mono ?_); rintro e w' ⟨rfl, ⟨nd, rfl⟩⟩; refine ⟨_, rfl, ?_⟩) | ((with_reducible refine gc 160 rfl ?_); refine gl 10 Try.func160 #[.int .i64 a1] ?_; (with_reducible refine (cmp_isNaN_int.calls a1 false _ A4.out).mono ?_); rintro e w' ⟨rfl, ⟨nd, rfl⟩⟩; refine ⟨_, rfl, ?_⟩))
    go_ret
    exact ⟨eqs, drs⟩
   ·rw [if_neg c8] at H
    have c8b0 : decide (a0 < a1) = false := decide_eq_false c8
    clear c8
    by_cases c9 : a0 > a1
    ·rw [if_pos c9] at H
     have c9b0 : decide (a1 < a0) = true := decide_eq_true c9
     clear c9
     obtain rfl := Option.some.inj H
     go_enter Try.func138, Try.ntmps138
     go_wp2_with (first | ((with_reducible refine gc 160 rfl ?_); refine gl 8 Try.func160 #[.int .i64 a0] ?_; (with_reducible refine (cmp_isNaN_int.calls a0 false _ A3.out).mono ?_); rintro e w' ⟨rfl, ⟨nd, rfl⟩⟩; refine ⟨_, rfl, ?_⟩) | ((with_reducible refine gc 160 rfl ?_); refine gl 10 Try.func160 #[.int .i64 a1] ?_; (with_reducible refine (cmp_isNaN_int.calls a1 false _ A4.out).mono ?_); rintro e w' ⟨rfl, ⟨nd, rfl⟩⟩; refine ⟨_, rfl, ?_⟩))
     go_ret
     exact ⟨eqs, drs⟩
    ·rw [if_neg c9] at H
     have c9b0 : decide (a1 < a0) = false := decide_eq_false c9
     clear c9
     obtain rfl := Option.some.inj H
     go_enter Try.func138, Try.ntmps138
     go_wp2_with (first | ((with_reducible refine gc 160 rfl ?_); refine gl 8 Try.func160 #[.int .i64 a0] ?_; (with_reducible refine (cmp_isNaN_int.calls a0 false _ A3.out).mono ?_); rintro e w' ⟨rfl, ⟨nd, rfl⟩⟩; refine ⟨_, rfl, ?_⟩) | ((with_reducible refine gc 160 rfl ?_); refine gl 10 Try.func160 #[.int .i64 a1] ?_; (with_reducible refine (cmp_isNaN_int.calls a1 false _ A4.out).mono ?_); rintro e w' ⟨rfl, ⟨nd, rfl⟩⟩; refine ⟨_, rfl, ?_⟩))
     go_ret
     exact ⟨eqs, drs⟩

/-! ### impl_nodeOrder: function 105 -/
def impl_nodeOrder.f (a0_0 : Int) (a0_1 : Int) (a1_0 : Int) (a1_1 : Int) : Option (Int) := (impl_NodeCode.f a0_0 a0_1).bind fun t131 => ((impl_NodeCode.f a1_0 a1_1).bind fun t132 => ((cmp_Compare_int.f t131 t132).bind fun t133 => (some t133)))
theorem impl_nodeOrder.calls (a0_0 : Int) (a0_1 : Int) (a1_0 : Int) (a1_1 : Int) (r : Int) (w : World) (h : impl_nodeOrder.f a0_0 a0_1 a1_0 a1_1 = some r) :
  Calls Try.prog 105 #[.agg #[.int .i64 a0_0, .int .i64 a0_1], .agg #[.int .i64 a1_0, .int .i64 a1_1]] w fun e w' => e = .returned (.int .i64 r) ∧ Below w.heap.size w w' := by
 have hu36 := Try.underlying36
 have HB := Aside0.mk (Below.refl w.heap.size w)
 have H := h; unfold impl_nodeOrder.f at H
 clear h
 replace H := Option.bind_eq_some_iff.mp H
 obtain ⟨t131, A30, H⟩ := H
 try dsimp -simprocs only at H
 have A3 := Aside0.mk A30
 clear A30
 replace H := Option.bind_eq_some_iff.mp H
 obtain ⟨t132, A40, H⟩ := H
 try dsimp -simprocs only at H
 have A4 := Aside0.mk A40
 clear A40
 replace H := Option.bind_eq_some_iff.mp H
 obtain ⟨t133, A50, H⟩ := H
 try dsimp -simprocs only at H
 have A5 := Aside0.mk A50
 clear A50
 obtain rfl := Option.some.inj H
 go_enter Try.func105, Try.ntmps105
 try go_wp2_with (first | ((with_reducible refine gd 2 rfl ?_); refine bx 2 (cs := #[.int .i64 a0_0, .int .i64 a0_1]) (t := 36) ?_; intro gb129 hg w6 hbox hb; have BK129 := Aside0.mk (hbox); have GW129 := gwb HB hg; replace HB := hs HB hb; clear hb hbox hg) | ((with_reducible refine gd 3 rfl ?_); refine bx 3 (cs := #[.int .i64 a1_0, .int .i64 a1_1]) (t := 36) ?_; intro gb130 hg w7 hbox hb; have BK130 := Aside0.mk (hbox); have GW130 := gwb HB hg; replace HB := hs HB hb; have NB129_130 := nq BK129 hg; have NB130_129 := nq' BK129 hg; replace BK129 := bb BK129 hb rfl; clear hb hbox hg))
 replace BK129 := bd BK129
 replace BK130 := bd BK130
 replace HB := hd HB
 refine wp_region_bel (by kernel_rfl) (by kernel_rfl) ?_
 generalize w7.drew = w8 at BK129 BK130 HB ⊢
 have hbp_ := fun (p_ : Bel w8) => below_step HB.out p_.h
 have hz0_ : ∀ p_ : Bel w8, p_.v.cell? ⟨gb129, 0, none⟩ = some (.int .i64 a0_0) := fun p_ => cell_bel ((blk_cell BK129.out 0).trans rfl) p_
 have hz1_ : ∀ p_ : Bel w8, p_.v.cell? ⟨gb129, 1, none⟩ = some (.int .i64 a0_1) := fun p_ => cell_bel ((blk_cell BK129.out 1).trans rfl) p_
 have hz2_ : ∀ p_ : Bel w8, p_.v.cell? ⟨gb130, 0, none⟩ = some (.int .i64 a1_0) := fun p_ => cell_bel ((blk_cell BK130.out 0).trans rfl) p_
 have hz3_ : ∀ p_ : Bel w8, p_.v.cell? ⟨gb130, 1, none⟩ = some (.int .i64 a1_1) := fun p_ => cell_bel ((blk_cell BK130.out 1).trans rfl) p_
 repeat (go_big_quiet_step (first
  | (with_reducible show Calls Try.prog 116 #[.agg #[.int .i64 a0_0, .int .i64 a0_1]] _ _; with_reducible exact calls_bel (impl_NodeCode.calls a0_0 a0_1 t131 _ A3.out))
  | (with_reducible show Calls Try.prog 116 #[.agg #[.int .i64 a1_0, .int .i64 a1_1]] _ _; with_reducible exact calls_bel (impl_NodeCode.calls a1_0 a1_1 t132 _ A4.out))
  | (with_reducible show Calls Try.prog 138 #[.int .i64 t131, .int .i64 t132] _ _; with_reducible exact calls_bel0 (cmp_Compare_int.calls t131 t132 t133 _ A5.out))))
 refine wpQuiet_nil ?_
 intro w10 hw'
 obtain ⟨⟨wq_, hb⟩, hw''⟩ := hw'
 subst hw''
 clear hbp_ hz0_ hz1_ hz2_ hz3_
 replace BK129 := bb BK129 hb rfl
 replace BK130 := bb BK130 hb rfl
 replace HB := hs HB hb
 (try clear hb)
 (try clear hb2)
 (try clear hk)
 (try clear hi)
 try go_wp2
 go_ret
 exact ⟨eqr, bs HB.out⟩

/-! ### cmp_Or_int: function 142 -/
def cmp_Or_int.l0 : Nat → Int → List Int → Int → Int → Option (Int)
 | 0, _, _, _, _ => none
 | k + 1, x3, x6, x7, x8 => if x8 < x7 then (if 0 ≤ x8 then (if x8 < (x6.length : Int) then (if (rd x6 x8) = x3 then (cmp_Or_int.l0 k x3 x6 x7 (wrap64 (x8 + 1))) else (some (rd x6 x8))) else (none)) else (none)) else (some x3)
def cmp_Or_int.f (k : Nat) (l0 : List Int) : Option (Int) := cmp_Or_int.l0 k 0 l0 (l0.length : Int) 0
theorem cmp_Or_int.calls (k : Nat) (A0 : Option Addr) (c0 : Nat) (l0 : List Int) (r : Int) (w : World) (hr0 : Kd.C (Kd.int .i64) w A0 l0.length l0) (hc0 : l0.length ≤ c0) (h : cmp_Or_int.f k l0 = some r) :
  Calls Try.prog 142 #[.slice A0 l0.length c0] w fun e w' => e = .returned (.int .i64 r) ∧ Drawn0 w w' := by
 have HR0 := Aside0.mk hr0
 have HC0 := Aside0.mk hc0
 clear hr0 hc0
 have H := h; unfold cmp_Or_int.f at H
 clear h
 have H' := Aside0.mk H
 clear H
 go_enter Try.func142, Try.ntmps142
 go_wp2
 go_loopg [8] k (fun kq v8 w' => ∃ (x8_1 : Int), v8 = .int .i64 x8_1 ∧ Aside0 (cmp_Or_int.l0 kq 0 l0 (l0.length : Int) x8_1 = some r) ∧ Aside0 (kq ≤ k) ∧ Drawn0 w w')
 case atStart => exact ⟨(0), eqs, H', ⟨Nat.le_refl _⟩, drs⟩
 case round =>
  clear H'
  try clear c1
  obtain ⟨x8_1, rfl, HA, HK1, ⟨m1, rfl⟩⟩ := hrel
  cases gk with
  | zero => exact absurd HA.out (by simp [cmp_Or_int.l0])
  | succ k1 =>
   have H := HA.out
   clear HA
   simp only [cmp_Or_int.l0] at H
   by_cases c2 : x8_1 < (l0.length : Int)
   ·rw [if_pos c2] at H
    have c2b0 : decide (x8_1 < (l0.length : Int)) = true := decide_eq_true c2
    clear c2
    by_cases c3 : 0 ≤ x8_1
    ·rw [if_pos c3] at H
     have c3b0 : decide (0 ≤ x8_1) = true := decide_eq_true c3
     clear c3
     by_cases c4 : x8_1 < (l0.length : Int)
     ·rw [if_pos c4] at H
      have c4b0 : decide (x8_1 < (l0.length : Int)) = true := decide_eq_true c4
      clear c4
      by_cases c5 : (rd l0 x8_1) = 0
      ·rw [if_pos c5] at H
       have c5b0 : ((rd l0 x8_1) == 0) = true := beq_iff_eq.mpr c5
       have c5b1 : ((rd l0 x8_1) != 0) = false := bne_eq_false_iff_eq.mpr c5
       clear c5
       have H' := Aside0.mk H
       clear H
       have p134 : 0 ≤ (x8_1 : Int) := oda
       have q134 : x8_1 < (l0.length : Int) := oda
       obtain ⟨ad134, e134, hx134_0⟩ := Kd.at_int HR0.out x8_1 p134 q134
       cases e134
       replace p134 := eq_true p134
       replace q134 := eq_true q134
       go_wp2
       go_roundg k1
       case measure => have := HK1.out; omega
       case rel => exact ⟨(wrap64 (x8_1 + 1)), eqs, H', ⟨by have := HK1.out; omega⟩, drs⟩
      ·rw [if_neg c5] at H
       have c5b0 : ((rd l0 x8_1) == 0) = false := beq_eq_false_iff_ne.mpr c5
       have c5b1 : ((rd l0 x8_1) != 0) = true := bne_iff_ne.mpr c5
       obtain rfl := Option.some.inj H
       have p134 : 0 ≤ (x8_1 : Int) := oda
       have q134 : x8_1 < (l0.length : Int) := oda
       obtain ⟨ad134, e134, hx134_0⟩ := Kd.at_int HR0.out x8_1 p134 q134
       cases e134
       replace p134 := eq_true p134
       replace q134 := eq_true q134
       go_wp2
       go_ret
       exact ⟨eqs, drs⟩
     ·rw [if_neg c4] at H
      exact absurd H (by simp)
    ·rw [if_neg c3] at H
     exact absurd H (by simp)
   ·rw [if_neg c2] at H
    have c2b0 : decide (x8_1 < (l0.length : Int)) = false := decide_eq_false c2
    clear c2
    obtain rfl := Option.some.inj H
    go_wp2
    go_ret
    exact ⟨eqs, drs⟩

/-! ### impl_edgeOrder: function 117 -/
def impl_edgeOrder.f (k : Nat) (a0_0 : Int) (a0_1 : Int) (a0_2 : Int) (a0_3 : Int) (a0_4 : Int) (a1_0 : Int) (a1_1 : Int) (a1_2 : Int) (a1_3 : Int) (a1_4 : Int) : Option (Int) := (cmp_Compare_int.f a0_0 a1_0).bind fun t137 => ((impl_nodeOrder.f a0_1 a0_2 a1_1 a1_2).bind fun t138 => ((impl_nodeOrder.f a0_3 a0_4 a1_3 a1_4).bind fun t139 => ((cmp_Or_int.f k (([t137, t138, t139] : List Int))).bind fun t143 => (some t143))))
def impl_edgeOrder.T1 : Bool × List (List Nat × List Nat) := (true, [([], []), ([0], [0]), ([], []), ([2], [2]), ([1, 3], [1, 3]), ([], []), ([5], [5]), ([], []), ([7], [7]), ([6, 8, 4], [6, 8]), ([], []), ([10], [10]), ([], []), ([12], [12]), ([11, 13, 9], [11, 13]), ([4, 9, 14], [4, 9, 14]), ([15, 14], [15]), ([16, 16, 0, 1, 2, 3, 4, 5, 6, 7, 8, 9, 10, 11, 12, 13, 14, 15, 16], [16])])
def impl_edgeOrder.B1 : List Nat := [0, 1, 0, 4, 15, 0, 32, 0, 128, 511, 0, 1024, 0, 4096, 16383, 32767, 65535, 131071]
theorem impl_edgeOrder.tab1 : rtab .any (opsOf Try.f117 1) = impl_edgeOrder.T1 := by kernel_rfl
theorem impl_edgeOrder.bits1 : waitsOk impl_edgeOrder.T1.2 impl_edgeOrder.B1 = true := by kernel_rfl
theorem impl_edgeOrder.calls (k : Nat) (a0_0 : Int) (a0_1 : Int) (a0_2 : Int) (a0_3 : Int) (a0_4 : Int) (a1_0 : Int) (a1_1 : Int) (a1_2 : Int) (a1_3 : Int) (a1_4 : Int) (r : Int) (w : World) (h : impl_edgeOrder.f k a0_0 a0_1 a0_2 a0_3 a0_4 a1_0 a1_1 a1_2 a1_3 a1_4 = some r) :
  Calls Try.prog 117 #[.agg #[.int .i64 a0_0, .int .i64 a0_1, .int .i64 a0_2, .int .i64 a0_3, .int .i64 a0_4], .agg #[.int .i64 a1_0, .int .i64 a1_1, .int .i64 a1_2, .int .i64 a1_3, .int .i64 a1_4]] w fun e w' => e = .returned (.int .i64 r) ∧ Below w.heap.size w w' := by
 have hu56 := Try.underlying56
 have hu36 := Try.underlying36
 have HB := Aside0.mk (Below.refl w.heap.size w)
 have H := h; unfold impl_edgeOrder.f at H
 clear h
 replace H := Option.bind_eq_some_iff.mp H
 obtain ⟨t137, A30, H⟩ := H
 try dsimp -simprocs only at H
 have A3 := Aside0.mk A30
 clear A30
 replace H := Option.bind_eq_some_iff.mp H
 obtain ⟨t138, A40, H⟩ := H
 try dsimp -simprocs only at H
 have A4 := Aside0.mk A40
 clear A40
 replace H := Option.bind_eq_some_iff.mp H
 obtain ⟨t139, A50, H⟩ := H
 try dsimp -simprocs only at H
 have A5 := Aside0.mk A50
 clear A50
 obtain ⟨y140, hy140⟩ : ∃ y_ : List Int, y_ = (([t137, t138, t139] : List Int)) := ⟨_, rfl⟩
 replace H : ((cmp_Or_int.f k y140).bind fun t143 => (some t143)) = some r := by first | (rw [hy140]; exact H) | exact H
 have Ny140 := Aside0.mk hy140
 clear hy140
 replace H := Option.bind_eq_some_iff.mp H
 obtain ⟨t143, A60, H⟩ := H
 try dsimp -simprocs only at H
 have A6 := Aside0.mk A60
 clear A60
 obtain rfl := Option.some.inj H
 go_enter Try.func117, Try.ntmps117
 try go_wp2_with (first | ((with_reducible refine gd 2 rfl ?_); refine bx 2 (cs := #[.int .i64 a0_0, .int .i64 a0_1, .int .i64 a0_2, .int .i64 a0_3, .int .i64 a0_4]) (t := 56) ?_; intro gb135 hg w7 hbox hb; have BK135 := Aside0.mk (hbox); have GW135 := gwb HB hg; replace HB := hs HB hb; clear hb hbox hg) | ((with_reducible refine gd 3 rfl ?_); refine bx 3 (cs := #[.int .i64 a1_0, .int .i64 a1_1, .int .i64 a1_2, .int .i64 a1_3, .int .i64 a1_4]) (t := 56) ?_; intro gb136 hg w8 hbox hb; have BK136 := Aside0.mk (hbox); have GW136 := gwb HB hg; replace HB := hs HB hb; have NB135_136 := nq BK135 hg; have NB136_135 := nq' BK135 hg; replace BK135 := bb BK135 hb rfl; clear hb hbox hg))
 replace BK135 := bd BK135
 replace BK136 := bd BK136
 replace HB := hd HB
 refine start_ (n := 18) (S := fun w' => w'.cell? ⟨gb135, 0, none⟩ = some (.int .i64 a0_0) ∧ w'.cell? ⟨gb135, 1, none⟩ = some (.int .i64 a0_1) ∧ w'.cell? ⟨gb135, 2, none⟩ = some (.int .i64 a0_2) ∧ w'.cell? ⟨gb135, 3, none⟩ = some (.int .i64 a0_3) ∧ w'.cell? ⟨gb135, 4, none⟩ = some (.int .i64 a0_4) ∧ w'.cell? ⟨gb136, 0, none⟩ = some (.int .i64 a1_0) ∧ w'.cell? ⟨gb136, 1, none⟩ = some (.int .i64 a1_1) ∧ w'.cell? ⟨gb136, 2, none⟩ = some (.int .i64 a1_2) ∧ w'.cell? ⟨gb136, 3, none⟩ = some (.int .i64 a1_3) ∧ w'.cell? ⟨gb136, 4, none⟩ = some (.int .i64 a1_4)) (ds := []) #[false, false, false, false, false, false, false, false, false, false, false, false, false, false, false, false, false, false] (by kernel_rfl) rfl rfl ⟨(blk_cell BK135.out 0).trans rfl, (blk_cell BK135.out 1).trans rfl, (blk_cell BK135.out 2).trans rfl, (blk_cell BK135.out 3).trans rfl, (blk_cell BK135.out 4).trans rfl, (blk_cell BK136.out 0).trans rfl, (blk_cell BK136.out 1).trans rfl, (blk_cell BK136.out 2).trans rfl, (blk_cell BK136.out 3).trans rfl, (blk_cell BK136.out 4).trans rfl⟩ (fun hHeld => ?_); refine with_tabW impl_edgeOrder.tab1 impl_edgeOrder.bits1 (fun HT_ HW_ => ?_)
 generalize w8.drew = w9 at BK135 BK136 HB hHeld ⊢
 refine pu 0 5 ?_
 refine pu 2 7 ?_
 refine pu 5 10 ?_
 refine pu 7 12 ?_
 refine pu 10 15 ?_
 refine pu 12 17 ?_
 refine tk 1 6 ?_
 refine tk 3 8 ?_
 refine tk 6 11 ?_
 refine tk 8 13 ?_
 refine tk 11 16 ?_
 refine tk 13 18 ?_
 refine one_ (i := 4) (N := some 9) #[true, true, true, true, true, true, true, true, true, false, true, true, true, true, false, false, false, false] rfl rfl (one_of HT_.out (by kernel_rfl)) (by decide) (fun K hK => ?_)
 refine gs Try.func138 #[.int .i64 a0_0, .int .i64 a1_0] ?_
 with_reducible refine (cmp_Compare_int.calls a0_0 a1_0 t137 _ A3.out).mono ?_
 rintro e w' ⟨rfl, ⟨nd, rfl⟩⟩
 refine ⟨_, rfl, ?_⟩
 refine hK.out _ _ ⟨(blk_cell BK135.out 0).trans rfl, (blk_cell BK135.out 1).trans rfl, (blk_cell BK135.out 2).trans rfl, (blk_cell BK135.out 3).trans rfl, (blk_cell BK135.out 4).trans rfl, (blk_cell BK136.out 0).trans rfl, (blk_cell BK136.out 1).trans rfl, (blk_cell BK136.out 2).trans rfl, (blk_cell BK136.out 3).trans rfl, (blk_cell BK136.out 4).trans rfl⟩ (fun hHeld => ?_)
 clear hK K
 refine nrm 9 ?_
 refine one_ (i := 9) (N := some 14) #[true, true, true, true, true, true, true, true, true, true, true, true, true, true, false, false, false, false] rfl rfl (one_of HT_.out (by kernel_rfl)) (by decide) (fun K hK => ?_)
 refine gs Try.func105 #[.agg #[.int .i64 a0_1, .int .i64 a0_2], .agg #[.int .i64 a1_1, .int .i64 a1_2]] ?_
 with_reducible refine (impl_nodeOrder.calls a0_1 a0_2 a1_1 a1_2 t138 _ A4.out).mono ?_
 rintro e w10 ⟨rfl, hb⟩
 refine ⟨_, rfl, ?_⟩
 replace BK135 := bb BK135 hb rfl
 replace BK136 := bb BK136 hb rfl
 replace HB := hs HB hb
 (try clear hb)
 (try clear hb2)
 (try clear hk)
 (try clear hi)
 refine hK.out _ _ ⟨(blk_cell BK135.out 0).trans rfl, (blk_cell BK135.out 1).trans rfl, (blk_cell BK135.out 2).trans rfl, (blk_cell BK135.out 3).trans rfl, (blk_cell BK135.out 4).trans rfl, (blk_cell BK136.out 0).trans rfl, (blk_cell BK136.out 1).trans rfl, (blk_cell BK136.out 2).trans rfl, (blk_cell BK136.out 3).trans rfl, (blk_cell BK136.out 4).trans rfl⟩ (fun hHeld => ?_)
 clear hK K
 refine nrm 14 ?_
 refine one_ (i := 14) (N := some 19) #[true, true, true, true, true, true, true, true, true, true, true, true, true, true, true, false, false, false] rfl rfl (one_of HT_.out (by kernel_rfl)) (by decide) (fun K hK => ?_)
 refine gs Try.func105 #[.agg #[.int .i64 a0_3, .int .i64 a0_4], .agg #[.int .i64 a1_3, .int .i64 a1_4]] ?_
 with_reducible refine (impl_nodeOrder.calls a0_3 a0_4 a1_3 a1_4 t139 _ A5.out).mono ?_
 rintro e w11 ⟨rfl, hb⟩
 refine ⟨_, rfl, ?_⟩
 replace BK135 := bb BK135 hb rfl
 replace BK136 := bb BK136 hb rfl
 replace HB := hs HB hb
 (try clear hb)
 (try clear hb2)
 (try clear hk)
 (try clear hi)
 refine hK.out _ _ ⟨(blk_cell BK135.out 0).trans rfl, (blk_cell BK135.out 1).trans rfl, (blk_cell BK135.out 2).trans rfl, (blk_cell BK135.out 3).trans rfl, (blk_cell BK135.out 4).trans rfl, (blk_cell BK136.out 0).trans rfl, (blk_cell BK136.out 1).trans rfl, (blk_cell BK136.out 2).trans rfl, (blk_cell BK136.out 3).trans rfl, (blk_cell BK136.out 4).trans rfl⟩ (fun hHeld => ?_)
 clear hK K
 refine nrm 19 ?_
 refine one_ (i := 15) (N := some 20) #[true, true, true, true, true, true, true, true, true, true, true, true, true, true, true, true, false, false] rfl rfl (one_of HT_.out (by kernel_rfl)) (by decide) (fun K hK => ?_)
 refine Kd.R_lit_step (Kd.int .i64) _ 3 ?hg (N := 20) ?hd (xs := ([t137, t138, t139] : List Int)) (inner := [.int .i64 t137, .int .i64 t138, .int .i64 t139]) (ok := fun _ => True) (okp := fun _ => True) ?hr ?hp (fun _ hk => hk) trivial (Below.refl _ _) (Nat.le_refl _) (by simp) ?_; (case hd => rfl); (case hg => rfl); (case hr => first | (go_simp; done) | (go_simp; rfl)); (case hp => exact (Reps.one (show Kd.M (Kd.int .i64) _ _ _ t137 [.int .i64 t137] from rfl) (Reps.one (show Kd.M (Kd.int .i64) _ _ _ t138 [.int .i64 t138] from rfl) (Reps.one (show Kd.M (Kd.int .i64) _ _ _ t139 [.int .i64 t139] from rfl) (Reps.none _ _)))))
 intro v141 w12 ho13 hb hg_ hnew_
 clear hg_ hnew_
 (first | rw [← Ny140.out] at ho13 | (simp only [Int.reduceToNat] at ho13; rw [← Ny140.out] at ho13))
 have HO142 := Aside0.mk (Kd.R_lower ho13 (below_size (bs HB.out)))
 replace BK135 := bb BK135 hb rfl
 replace BK136 := bb BK136 hb rfl
 replace HB := hs HB hb
 clear hb ho13
 obtain ⟨Ao14, co14, eo14⟩ := Kd.R_slice HO142.out
 (first | subst eo14 | (injection eo14 with f1_ f2_ f3_; have f4_ := f1_.symm; have f5_ := f3_.symm; clear f1_ f2_ f3_; subst f4_; subst f5_))
 refine hK.out _ _ ⟨(blk_cell BK135.out 0).trans rfl, (blk_cell BK135.out 1).trans rfl, (blk_cell BK135.out 2).trans rfl, (blk_cell BK135.out 3).trans rfl, (blk_cell BK135.out 4).trans rfl, (blk_cell BK136.out 0).trans rfl, (blk_cell BK136.out 1).trans rfl, (blk_cell BK136.out 2).trans rfl, (blk_cell BK136.out 3).trans rfl, (blk_cell BK136.out 4).trans rfl⟩ (fun hHeld => ?_)
 clear hK K
 refine nrm 20 ?_
 refine one_ (i := 16) (N := some 21) #[true, true, true, true, true, true, true, true, true, true, true, true, true, true, true, true, true, false] rfl rfl (one_of HT_.out (by kernel_rfl)) (by decide) (fun K hK => ?_)
 refine gs Try.func142 #[.slice Ao14 y140.length co14] ?_
 with_reducible refine (cmp_Or_int.calls k _ _ y140 t143 _ ?side1 ?side2 A6.out).mono ?_
 (case side1 => exact cr HO142)
 (case side2 => exact (Kd.R_reads' HO142.out).2.1)
 rintro e w' ⟨rfl, ⟨nd, rfl⟩⟩
 refine ⟨_, rfl, ?_⟩
 refine hK.out _ _ ⟨(blk_cell BK135.out 0).trans rfl, (blk_cell BK135.out 1).trans rfl, (blk_cell BK135.out 2).trans rfl, (blk_cell BK135.out 3).trans rfl, (blk_cell BK135.out 4).trans rfl, (blk_cell BK136.out 0).trans rfl, (blk_cell BK136.out 1).trans rfl, (blk_cell BK136.out 2).trans rfl, (blk_cell BK136.out 3).trans rfl, (blk_cell BK136.out 4).trans rfl⟩ (fun hHeld => ?_)
 clear hK K
 refine nrm 21 ?_
 refine pu 17 4 ?_
 refine done_ (done_of HT_.out (by kernel_rfl)) ?_
 try go_wp2
 go_ret
 exact ⟨eqr, bs HB.out⟩

end Go.Proofs.Ytohmemckdogljaa.QFnGraphView
