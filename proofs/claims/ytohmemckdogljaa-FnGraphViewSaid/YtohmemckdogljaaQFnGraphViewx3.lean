/- Contracts of the Go functions that this law reaches: each does what its plain Lean function says. No condition. -/
import Derived.Test.YtohmemckdogljaaQFnGraphViewx0
import Derived.Test.YtohmemckdogljaaQFnGraphViewx1
namespace Go.Proofs.Ytohmemckdogljaa.QFnGraphView
open Go.RowKit Go.Proofs.YtohmemckdogljaaW.PrintWords Go.Proofs.YtohmemckdogljaaW.PrintLast Go.Proofs.YtohmemckdogljaaW.PrintMore Go.Proofs.Ytohmemckdogljaa.Bl
attribute [local go_sem] max2_int min2_int max_two min_two max_three min_three max_four min_four   -- for this text's walks alone
set_option linter.unusedVariables false
set_option linter.unusedSimpArgs false
set_option maxHeartbeats 8000000
set_option maxRecDepth 100000

attribute [local go_sem high] eqA36
/-! ### spec_l2At: function 62 -/
def spec_l2At.l0 : Nat → Int → List (S36) → List (S56) → Int → Int → Option (Int)
 | 0, _, _, _, _, _ => none
 | k + 1, x5, x102000, x102001, x103000, x103001 => if x5 < (x102000.length : Int) then (if 0 ≤ x5 then (if (((rd_T36 x102000 x5).f0) == x103000 && (((rd_T36 x102000 x5).f1) == x103001)) = true then (some x5) else (spec_l2At.l0 k (wrap64 (x5 + 1)) x102000 x102001 x103000 x103001)) else (none)) else (some (-1))
def spec_l2At.f (k : Nat) (l0_0 : List (S36)) (l0_1 : List (S56)) (a1_0 : Int) (a1_1 : Int) : Option (Int) := spec_l2At.l0 k 0 l0_0 l0_1 a1_0 a1_1
theorem spec_l2At.calls (k : Nat) (A0_0 : Option Addr) (c0_0 : Nat) (l0_0 : List (S36)) (A0_1 : Option Addr) (c0_1 : Nat) (l0_1 : List (S56)) (a1_0 : Int) (a1_1 : Int) (r : Int) (w : World) (hr0_0 : Kd.C k36 w A0_0 l0_0.length l0_0) (hc0_0 : l0_0.length ≤ c0_0) (hr0_1 : Kd.C k56 w A0_1 l0_1.length l0_1) (hc0_1 : l0_1.length ≤ c0_1) (h : spec_l2At.f k l0_0 l0_1 a1_0 a1_1 = some r) :
  Calls Try.prog 62 #[.agg #[.slice A0_0 l0_0.length c0_0, .slice A0_1 l0_1.length c0_1], .agg #[.int .i64 a1_0, .int .i64 a1_1]] w fun e w' => e = .returned (.int .i64 r) ∧ Below w.heap.size w w' := by
 have hu34 := Try.underlying34
 have hu36 := Try.underlying36
 have HR0_0 := Aside0.mk hr0_0
 have HC0_0 := Aside0.mk hc0_0
 clear hr0_0 hc0_0
 have HR0_1 := Aside0.mk hr0_1
 have HC0_1 := Aside0.mk hc0_1
 clear hr0_1 hc0_1
 have HB := Aside0.mk (Below.refl w.heap.size w)
 have H := h; unfold spec_l2At.f at H
 clear h
 have H' := Aside0.mk H
 clear H
 go_enter Try.func62, Try.ntmps62
 go_wp2_with (first | ((with_reducible refine gd 2 rfl ?_); refine bx 2 (cs := #[.slice A0_0 l0_0.length c0_0, .slice A0_1 l0_1.length c0_1]) (t := 34) ?_; intro gb101 hg w3 hbox hb; have BK101 := Aside0.mk (hbox); have GW101 := gwb HB hg; replace HB := hs HB hb; clear hb hbox hg) | ((with_reducible refine gd 3 rfl ?_); refine bx 3 (cs := #[.int .i64 a1_0, .int .i64 a1_1]) (t := 36) ?_; intro gb102 hg w4 hbox hb; have BK102 := Aside0.mk (hbox); have GW102 := gwb HB hg; replace HB := hs HB hb; have NB101_102 := nq BK101 hg; have NB102_101 := nq' BK101 hg; replace BK101 := bb BK101 hb rfl; clear hb hbox hg))
 repeat (go_quiet (first | ((with_reducible refine gd 2 rfl ?_); refine bx 2 (cs := #[.slice A0_0 l0_0.length c0_0, .slice A0_1 l0_1.length c0_1]) (t := 34) ?_; intro gb101 hg w3 hbox hb; have BK101 := Aside0.mk (hbox); have GW101 := gwb HB hg; replace HB := hs HB hb; clear hb hbox hg) | ((with_reducible refine gd 3 rfl ?_); refine bx 3 (cs := #[.int .i64 a1_0, .int .i64 a1_1]) (t := 36) ?_; intro gb102 hg w4 hbox hb; have BK102 := Aside0.mk (hbox); have GW102 := gwb HB hg; replace HB := hs HB hb; have NB101_102 := nq BK101 hg; have NB102_101 := nq' BK101 hg; replace BK101 := bb BK101 hb rfl; clear hb hbox hg)); try go_wp2_with (first | ((with_reducible refine gd 2 rfl ?_); refine bx 2 (cs := #[.slice A0_0 l0_0.length c0_0, .slice A0_1 l0_1.length c0_1]) (t := 34) ?_; intro gb101 hg w3 hbox hb; have BK101 := Aside0.mk (hbox); have GW101 := gwb HB hg; replace HB := hs HB hb; clear hb hbox hg) | ((with_reducible refine gd 3 rfl ?_); refine bx 3 (cs := #[.int .i64 a1_0, .int .i64 a1_1]) (t := 36) ?_; intro gb102 hg w4 hbox hb; have BK102 := Aside0.mk (hbox); have GW102 := gwb HB hg; replace HB := hs HB hb; have NB101_102 := nq BK101 hg; have NB102_101 := nq' BK101 hg; replace BK101 := bb BK101 hb rfl; clear hb hbox hg)))
 go_loopg [5] k (fun kq v5 w' => ∃ (x5_1 : Int), v5 = .int .i64 x5_1 ∧ Aside0 (spec_l2At.l0 kq x5_1 l0_0 l0_1 a1_0 a1_1 = some r) ∧ Aside0 (kq ≤ k) ∧ Aside0 (w'.heap[gb101]? = some (.cells #[(.slice A0_0 l0_0.length c0_0), (.slice A0_1 l0_1.length c0_1)] 34 (0, 0))) ∧ Aside0 (w'.heap[gb102]? = some (.cells #[.int .i64 a1_0, .int .i64 a1_1] 36 (0, 0))) ∧ Aside0 (Below w.heap.size w w'))
 case atStart => exact ⟨(0), eqs, H', ⟨Nat.le_refl _⟩, ⟨bf BK101.out⟩, ⟨bf BK102.out⟩, ⟨bs HB.out⟩⟩
 case round =>
  clear H'
  try clear p2
  obtain ⟨x5_1, rfl, HA, HK1, BK101, BK102, HB⟩ := hrel
  cases gk with
  | zero => exact absurd HA.out (by simp [spec_l2At.l0])
  | succ k1 =>
   have H := HA.out
   clear HA
   simp only [spec_l2At.l0] at H
   by_cases c5 : x5_1 < (l0_0.length : Int)
   ·rw [if_pos c5] at H
    have c5b0 : decide (x5_1 < (l0_0.length : Int)) = true := decide_eq_true c5
    clear c5
    by_cases c6 : 0 ≤ x5_1
    ·rw [if_pos c6] at H
     have c6b0 : decide (0 ≤ x5_1) = true := decide_eq_true c6
     clear c6
     by_cases c7 : (((rd_T36 l0_0 x5_1).f0) == a1_0 && (((rd_T36 l0_0 x5_1).f1) == a1_1)) = true
     ·rw [if_pos c7] at H
      have c7b0 : (((rd_T36 l0_0 x5_1).f0) == a1_0 && (((rd_T36 l0_0 x5_1).f1) == a1_1)) = true := c7
      (try (have c7b1 : decide (((rd_T36 l0_0 x5_1).f0) = a1_0 && (((rd_T36 l0_0 x5_1).f1) == a1_1)) = true := by simpa using c7))
      (try (have c7b2 : (((rd_T36 l0_0 x5_1).f0) == a1_0 && (((rd_T36 l0_0 x5_1).f1) == a1_1)) = true := by simpa using c7))
      clear c7
      obtain rfl := Option.some.inj H
      have hnb8 := NB101_102.out
      have hnc8 := NB102_101.out
      obtain ⟨hcz9_0, hcz9_1⟩ := bc2 (w := wr) BK101.out
      have hfz9 := blk_frozen BK101.out
      have p103 : 0 ≤ (x5_1 : Int) := oda
      have q103 : x5_1 < (l0_0.length : Int) := oda
      obtain ⟨ad103, e103, hx103_0, hx103_1⟩ := at_T36 HR0_0.out x5_1 p103 q103
      cases e103
      replace hx103_0 := cb HB hx103_0
      replace hx103_1 := cb HB hx103_1
      replace p103 := eq_true p103
      replace q103 := eq_true q103
      obtain ⟨hcz10_0, hcz10_1⟩ := bc2 (w := wr) BK102.out
      have hfz10 := blk_frozen BK102.out
      go_wp2
      repeat (go_quiet (fail); try go_wp2)
      go_ret
      exact ⟨eqr, bs HB.out⟩
     ·rw [if_neg c7] at H
      have c7b0 : (((rd_T36 l0_0 x5_1).f0) == a1_0 && (((rd_T36 l0_0 x5_1).f1) == a1_1)) = false := by simpa using c7
      (try (have c7b1 : decide (((rd_T36 l0_0 x5_1).f0) = a1_0 && (((rd_T36 l0_0 x5_1).f1) == a1_1)) = false := by simpa using c7))
      (try (have c7b2 : (((rd_T36 l0_0 x5_1).f0) == a1_0 && (((rd_T36 l0_0 x5_1).f1) == a1_1)) = false := by simpa using c7))
      (try (have c7b3 : ¬ (((rd_T36 l0_0 x5_1).f0) = a1_0 && (((rd_T36 l0_0 x5_1).f1) == a1_1)) := by simpa using c7))
      clear c7
      have H' := Aside0.mk H
      clear H
      have hnb11 := NB101_102.out
      have hnc11 := NB102_101.out
      obtain ⟨hcz12_0, hcz12_1⟩ := bc2 (w := wr) BK101.out
      have hfz12 := blk_frozen BK101.out
      have p103 : 0 ≤ (x5_1 : Int) := oda
      have q103 : x5_1 < (l0_0.length : Int) := oda
      obtain ⟨ad103, e103, hx103_0, hx103_1⟩ := at_T36 HR0_0.out x5_1 p103 q103
      cases e103
      replace hx103_0 := cb HB hx103_0
      replace hx103_1 := cb HB hx103_1
      replace p103 := eq_true p103
      replace q103 := eq_true q103
      obtain ⟨hcz13_0, hcz13_1⟩ := bc2 (w := wr) BK102.out
      have hfz13 := blk_frozen BK102.out
      go_wp2
      repeat (go_quiet (fail); try go_wp2)
      go_roundg k1
      case measure => have := HK1.out; omega
      case rel => exact ⟨(wrap64 (x5_1 + 1)), eqs, H', ⟨by have := HK1.out; omega⟩, ⟨bf BK101.out⟩, ⟨bf BK102.out⟩, ⟨bs HB.out⟩⟩
    ·rw [if_neg c6] at H
     exact absurd H (by simp)
   ·rw [if_neg c5] at H
    have c5b0 : decide (x5_1 < (l0_0.length : Int)) = false := decide_eq_false c5
    clear c5
    obtain rfl := Option.some.inj H
    have hnb14 := NB101_102.out
    have hnc14 := NB102_101.out
    obtain ⟨hcz15_0, hcz15_1⟩ := bc2 (w := wr) BK101.out
    have hfz15 := blk_frozen BK101.out
    go_wp2
    repeat (go_quiet (fail); try go_wp2)
    go_ret
    exact ⟨eqr, bs HB.out⟩

/-! ### spec_LabelOk: function 83 -/
def spec_LabelOk.f (a0 : Int) : Option (Bool) := if a0 ≥ 0 then (some (decide (a0 ≤ 7))) else (some false)
theorem spec_LabelOk.calls (a0 : Int) (r : Bool) (w : World) (h : spec_LabelOk.f a0 = some r) :
  Calls Try.prog 83 #[.int .i64 a0] w fun e w' => e = .returned (.bool r) ∧ Drawn0 w w' := by
 have H := h; unfold spec_LabelOk.f at H
 clear h
 by_cases c2 : a0 ≥ 0
 ·rw [if_pos c2] at H
  have c2b0 : decide (0 ≤ a0) = true := decide_eq_true c2
  clear c2
  obtain rfl := Option.some.inj H
  go_enter Try.func83, Try.ntmps83
  go_wp2
  go_ret
  exact ⟨eqs, drs⟩
 ·rw [if_neg c2] at H
  have c2b0 : decide (0 ≤ a0) = false := decide_eq_false c2
  clear c2
  obtain rfl := Option.some.inj H
  go_enter Try.func83, Try.ntmps83
  go_wp2
  go_ret
  exact ⟨eqs, drs⟩

/-! ### spec_NodeOk: function 75 -/
def spec_NodeOk.f (a0_0 : Int) (a0_1 : Int) : Option (Bool) := (spec_LabelOk.f a0_0).bind fun t105 => (if t105 = true then (if a0_1 ≥ 0 then (some (decide (a0_1 ≤ 40))) else (some false)) else (some false))
theorem spec_NodeOk.calls (a0_0 : Int) (a0_1 : Int) (r : Bool) (w : World) (h : spec_NodeOk.f a0_0 a0_1 = some r) :
  Calls Try.prog 75 #[.agg #[.int .i64 a0_0, .int .i64 a0_1]] w fun e w' => e = .returned (.bool r) ∧ Below w.heap.size w w' := by
 have hu36 := Try.underlying36
 have HB := Aside0.mk (Below.refl w.heap.size w)
 have H := h; unfold spec_NodeOk.f at H
 clear h
 replace H := Option.bind_eq_some_iff.mp H
 obtain ⟨t105, A20, H⟩ := H
 try dsimp -simprocs only at H
 have A2 := Aside0.mk A20
 clear A20
 by_cases c3 : t105 = true
 ·subst c3
  have H1 : (if a0_1 ≥ 0 then (some (decide (a0_1 ≤ 40))) else (some false)) = some r := by rw [if_pos rfl] at H; exact H
  clear H
  have H := H1
  clear H1
  by_cases c4 : a0_1 ≥ 0
  ·rw [if_pos c4] at H
   have c4b0 : decide (0 ≤ a0_1) = true := decide_eq_true c4
   clear c4
   obtain rfl := Option.some.inj H
   go_enter Try.func75, Try.ntmps75
   go_wp2_with (first | ((with_reducible refine gd 1 rfl ?_); refine bx 1 (cs := #[.int .i64 a0_0, .int .i64 a0_1]) (t := 36) ?_; intro gb104 hg w5 hbox hb; have BK104 := Aside0.mk (hbox); have GW104 := gwb HB hg; replace HB := hs HB hb; clear hb hbox hg; obtain ⟨hcz6_0, hcz6_1⟩ := bc2 (w := w5) BK104.out; have hfz6 := blk_frozen BK104.out) | ((with_reducible refine gc 83 rfl ?_); refine gl 5 Try.func83 #[.int .i64 a0_0] ?_; (with_reducible refine (spec_LabelOk.calls a0_0 true _ A2.out).mono ?_); rintro e w' ⟨rfl, ⟨nd, rfl⟩⟩; refine ⟨_, rfl, ?_⟩))
   go_ret
   exact ⟨eqr, bs HB.out⟩
  ·rw [if_neg c4] at H
   have c4b0 : decide (0 ≤ a0_1) = false := decide_eq_false c4
   clear c4
   obtain rfl := Option.some.inj H
   go_enter Try.func75, Try.ntmps75
   go_wp2_with (first | ((with_reducible refine gd 1 rfl ?_); refine bx 1 (cs := #[.int .i64 a0_0, .int .i64 a0_1]) (t := 36) ?_; intro gb104 hg w7 hbox hb; have BK104 := Aside0.mk (hbox); have GW104 := gwb HB hg; replace HB := hs HB hb; clear hb hbox hg; obtain ⟨hcz8_0, hcz8_1⟩ := bc2 (w := w7) BK104.out; have hfz8 := blk_frozen BK104.out) | ((with_reducible refine gc 83 rfl ?_); refine gl 5 Try.func83 #[.int .i64 a0_0] ?_; (with_reducible refine (spec_LabelOk.calls a0_0 true _ A2.out).mono ?_); rintro e w' ⟨rfl, ⟨nd, rfl⟩⟩; refine ⟨_, rfl, ?_⟩))
   go_ret
   exact ⟨eqr, bs HB.out⟩
 ·replace c3 := Bool.eq_false_iff.mpr c3
  subst c3
  have H1 : (some false) = some r := by rw [if_neg (show ¬ (false = true) by decide)] at H; exact H
  clear H
  have H := H1
  clear H1
  obtain rfl := Option.some.inj H
  go_enter Try.func75, Try.ntmps75
  go_wp2_with (first | ((with_reducible refine gd 1 rfl ?_); refine bx 1 (cs := #[.int .i64 a0_0, .int .i64 a0_1]) (t := 36) ?_; intro gb104 hg w9 hbox hb; have BK104 := Aside0.mk (hbox); have GW104 := gwb HB hg; replace HB := hs HB hb; clear hb hbox hg; obtain ⟨hcz10_0, hcz10_1⟩ := bc2 (w := w9) BK104.out; have hfz10 := blk_frozen BK104.out) | ((with_reducible refine gc 83 rfl ?_); refine gl 5 Try.func83 #[.int .i64 a0_0] ?_; (with_reducible refine (spec_LabelOk.calls a0_0 false _ A2.out).mono ?_); rintro e w' ⟨rfl, ⟨nd, rfl⟩⟩; refine ⟨_, rfl, ?_⟩))
  go_ret
  exact ⟨eqr, bs HB.out⟩

/-! ### spec_l2Code: function 76 -/
def spec_l2Code.f (a0_0 : Int) (a0_1 : Int) : Option (Int) := some (wrap64 ((wrap64 (a0_0 * 64)) + a0_1))
theorem spec_l2Code.calls (a0_0 : Int) (a0_1 : Int) (r : Int) (w : World) (h : spec_l2Code.f a0_0 a0_1 = some r) :
  Calls Try.prog 76 #[.agg #[.int .i64 a0_0, .int .i64 a0_1]] w fun e w' => e = .returned (.int .i64 r) ∧ Below w.heap.size w w' := by
 have hu36 := Try.underlying36
 have HB := Aside0.mk (Below.refl w.heap.size w)
 have H := h; unfold spec_l2Code.f at H
 clear h
 obtain rfl := Option.some.inj H
 go_enter Try.func76, Try.ntmps76
 go_wp2_with (first | ((with_reducible refine gd 1 rfl ?_); refine bx 1 (cs := #[.int .i64 a0_0, .int .i64 a0_1]) (t := 36) ?_; intro gb106 hg w2 hbox hb; have BK106 := Aside0.mk (hbox); have GW106 := gwb HB hg; replace HB := hs HB hb; clear hb hbox hg; obtain ⟨hcz3_0, hcz3_1⟩ := bc2 (w := w2) BK106.out; have hfz3 := blk_frozen BK106.out))
 go_ret
 exact ⟨eqr, bs HB.out⟩

/-! ### spec_l1Two: function 161 -/
def spec_l1Two.l0 : Nat → Int → Int → Int → Option (Int)
 | 0, _, _, _ => none
 | k + 1, x0, x3, x4 => if x4 < x0 then (spec_l1Two.l0 k x0 (wrap64 (x3 * 2)) (wrap64 (x4 + 1))) else (some x3)
def spec_l1Two.f (k : Nat) (a0 : Int) : Option (Int) := spec_l1Two.l0 k a0 1 0
theorem spec_l1Two.mono_l : ∀ k, (∀ y0 y1 y2, LeO (spec_l1Two.l0 k y0 y1 y2) (spec_l1Two.l0 (k + 1) y0 y1 y2))
 | 0 => fun _ _ _ r h => by simp [spec_l1Two.l0] at h
 | k + 1 => by
  have ih0 := spec_l1Two.mono_l k
  ·intro y0 y1 y2
   unfold spec_l1Two.l0
   repeat' (with_reducible first | exact ih0 _ _ _ | exact LeO.refl _ | exact LeO.none _ | refine LeO.ite ?_ ?_ | refine LeO.bind ?_ (fun _ => ?_))
theorem spec_l1Two.mono : ∀ a0 k, LeO (spec_l1Two.f k a0) (spec_l1Two.f (k + 1) a0) := by
 intro a0 k
 have ih0 := spec_l1Two.mono_l k
 unfold spec_l1Two.f
 repeat' (with_reducible first | exact ih0 _ _ _ | exact LeO.refl _ | exact LeO.none _ | refine LeO.ite ?_ ?_ | refine LeO.bind ?_ (fun _ => ?_))
theorem spec_l1Two.calls (k : Nat) (a0 : Int) (r : Int) (w : World) (h : spec_l1Two.f k a0 = some r) :
  Calls Try.prog 161 #[.int .i64 a0] w fun e w' => e = .returned (.int .i64 r) ∧ Drawn0 w w' := by
 have H := h; unfold spec_l1Two.f at H
 clear h
 have H' := Aside0.mk H
 clear H
 go_enter Try.func161, Try.ntmps161
 go_wp2
 go_loopg [3, 4] k (fun kq v3 v4 w' => ∃ (x3_1 : Int) (x4_1 : Int), v3 = .int .i64 x3_1 ∧ v4 = .int .i64 x4_1 ∧ Aside0 (spec_l1Two.l0 kq a0 x3_1 x4_1 = some r) ∧ Aside0 (kq ≤ k) ∧ Drawn0 w w')
 case atStart => exact ⟨(1), (0), eqs, eqs, H', ⟨Nat.le_refl _⟩, drs⟩
 case round =>
  clear H'
  try clear c1
  obtain ⟨x3_1, x4_1, rfl, rfl, HA, HK1, ⟨m1, rfl⟩⟩ := hrel
  cases gk with
  | zero => exact absurd HA.out (by simp [spec_l1Two.l0])
  | succ k1 =>
   have H := HA.out
   clear HA
   simp only [spec_l1Two.l0] at H
   by_cases c2 : x4_1 < a0
   ·rw [if_pos c2] at H
    have c2b0 : decide (x4_1 < a0) = true := decide_eq_true c2
    clear c2
    have H' := Aside0.mk H
    clear H
    go_wp2
    go_roundg k1
    case measure => have := HK1.out; omega
    case rel => exact ⟨(wrap64 (x3_1 * 2)), (wrap64 (x4_1 + 1)), eqs, eqs, H', ⟨by have := HK1.out; omega⟩, drs⟩
   ·rw [if_neg c2] at H
    have c2b0 : decide (x4_1 < a0) = false := decide_eq_false c2
    clear c2
    obtain rfl := Option.some.inj H
    go_wp2
    go_ret
    exact ⟨eqs, drs⟩

/-! ### spec_l1Has: function 141 -/
def spec_l1Has.f (k : Nat) (a0 : Int) (a1 : Int) : Option (Bool) := (spec_l1Two.f k a1).bind fun t107 => (if t107 = 0 then (none) else (some ((Int.tmod (wrap64 (Int.tdiv a0 t107)) 2) == 1)))
theorem spec_l1Has.mono : ∀ a0 a1 k, LeO (spec_l1Has.f k a0 a1) (spec_l1Has.f (k + 1) a0 a1) := by
 intro a0 a1 k
 unfold spec_l1Has.f
 repeat' (with_reducible first | exact spec_l1Two.mono _ _ | exact LeO.refl _ | exact LeO.none _ | refine LeO.ite ?_ ?_ | refine LeO.bind ?_ (fun _ => ?_))
theorem spec_l1Has.calls (k : Nat) (a0 : Int) (a1 : Int) (r : Bool) (w : World) (h : spec_l1Has.f k a0 a1 = some r) :
  Calls Try.prog 141 #[.int .i64 a0, .int .i64 a1] w fun e w' => e = .returned (.bool r) ∧ Drawn0 w w' := by
 have H := h; unfold spec_l1Has.f at H
 clear h
 replace H := Option.bind_eq_some_iff.mp H
 obtain ⟨t107, A30, H⟩ := H
 try dsimp -simprocs only at H
 have A3 := Aside0.mk A30
 clear A30
 by_cases c4 : t107 = 0
 ·rw [if_pos c4] at H
  exact absurd H (by simp)
 ·rw [if_neg c4] at H
  have c4b0 : (t107 == 0) = false := beq_eq_false_iff_ne.mpr c4
  have c4b1 : (t107 != 0) = true := bne_iff_ne.mpr c4
  obtain rfl := Option.some.inj H
  go_enter Try.func141, Try.ntmps141
  go_wp2_with (first | ((with_reducible refine gc 161 rfl ?_); refine gl 7 Try.func161 #[.int .i64 a1] ?_; (with_reducible refine (spec_l1Two.calls k a1 t107 _ A3.out).mono ?_); rintro e w' ⟨rfl, ⟨nd, rfl⟩⟩; refine ⟨_, rfl, ?_⟩))
  go_ret
  exact ⟨eqs, drs⟩

/-! ### spec_l1Under: function 115 -/
def spec_l1Under.l0 : Nat → Int → Int → Int → Option (Bool)
 | 0, _, _, _ => none
 | k + 1, x0, x1, x5 => if x5 < 3 then ((spec_l1Has.f k x0 x5).bind fun t108 => (if t108 = true then ((spec_l1Has.f k x1 x5).bind fun t109 => (if t109 = true then (spec_l1Under.l0 k x0 x1 (wrap64 (x5 + 1))) else (some false))) else (spec_l1Under.l0 k x0 x1 (wrap64 (x5 + 1))))) else (some true)
def spec_l1Under.f (k : Nat) (a0 : Int) (a1 : Int) : Option (Bool) := spec_l1Under.l0 k a0 a1 0
theorem spec_l1Under.mono_l : ∀ k, (∀ y0 y1 y2, LeO (spec_l1Under.l0 k y0 y1 y2) (spec_l1Under.l0 (k + 1) y0 y1 y2))
 | 0 => fun _ _ _ r h => by simp [spec_l1Under.l0] at h
 | k + 1 => by
  have ih0 := spec_l1Under.mono_l k
  ·intro y0 y1 y2
   unfold spec_l1Under.l0
   repeat' (with_reducible first | exact ih0 _ _ _ | exact spec_l1Has.mono _ _ _ | exact LeO.refl _ | exact LeO.none _ | refine LeO.ite ?_ ?_ | refine LeO.bind ?_ (fun _ => ?_))
theorem spec_l1Under.mono : ∀ a0 a1 k, LeO (spec_l1Under.f k a0 a1) (spec_l1Under.f (k + 1) a0 a1) := by
 intro a0 a1 k
 have ih0 := spec_l1Under.mono_l k
 unfold spec_l1Under.f
 repeat' (with_reducible first | exact ih0 _ _ _ | exact spec_l1Has.mono _ _ _ | exact LeO.refl _ | exact LeO.none _ | refine LeO.ite ?_ ?_ | refine LeO.bind ?_ (fun _ => ?_))
theorem spec_l1Under.calls (k : Nat) (a0 : Int) (a1 : Int) (r : Bool) (w : World) (h : spec_l1Under.f k a0 a1 = some r) :
  Calls Try.prog 115 #[.int .i64 a0, .int .i64 a1] w fun e w' => e = .returned (.bool r) ∧ Drawn0 w w' := by
 have H := h; unfold spec_l1Under.f at H
 clear h
 have H' := Aside0.mk H
 clear H
 go_enter Try.func115, Try.ntmps115
 go_wp2
 go_loopg [5] k (fun kq v5 w' => ∃ (x5_1 : Int), v5 = .int .i64 x5_1 ∧ Aside0 (spec_l1Under.l0 kq a0 a1 x5_1 = some r) ∧ Aside0 (kq ≤ k) ∧ Drawn0 w w')
 case atStart => exact ⟨(0), eqs, H', ⟨Nat.le_refl _⟩, drs⟩
 case round =>
  clear H'
  try clear c1
  try clear p2
  obtain ⟨x5_1, rfl, HA, HK1, ⟨m1, rfl⟩⟩ := hrel
  cases gk with
  | zero => exact absurd HA.out (by simp [spec_l1Under.l0])
  | succ k1 =>
   have H := HA.out
   clear HA
   simp only [spec_l1Under.l0] at H
   by_cases c3 : x5_1 < 3
   ·rw [if_pos c3] at H
    have c3b0 : decide (x5_1 < 3) = true := decide_eq_true c3
    clear c3
    replace H := Option.bind_eq_some_iff.mp H
    obtain ⟨t108, A40, H⟩ := H
    try dsimp -simprocs only at H
    have A4 := Aside0.mk A40
    clear A40
    by_cases c5 : t108 = true
    ·subst c5
     have H1 : ((spec_l1Has.f k1 a1 x5_1).bind fun t109 => (if t109 = true then (spec_l1Under.l0 k1 a0 a1 (wrap64 (x5_1 + 1))) else (some false))) = some r := by rw [if_pos rfl] at H; exact H
     clear H
     have H := H1
     clear H1
     replace H := Option.bind_eq_some_iff.mp H
     obtain ⟨t109, A60, H⟩ := H
     try dsimp -simprocs only at H
     have A6 := Aside0.mk A60
     clear A60
     by_cases c7 : t109 = true
     ·subst c7
      have H1 : (spec_l1Under.l0 k1 a0 a1 (wrap64 (x5_1 + 1))) = some r := by rw [if_pos rfl] at H; exact H
      clear H
      have H := H1
      clear H1
      have H' := Aside0.mk H
      clear H
      go_wp2_with (first | ((with_reducible refine gc 141 rfl ?_); refine gl 12 Try.func141 #[.int .i64 a0, .int .i64 x5_1] ?_; (with_reducible refine (spec_l1Has.calls k1 a0 x5_1 true _ A4.out).mono ?_); rintro e w' ⟨rfl, ⟨nd, rfl⟩⟩; refine ⟨_, rfl, ?_⟩) | (go_at_call 141; (with_reducible refine (spec_l1Has.calls k1 a1 x5_1 true _ A6.out).mono ?_); rintro e w' ⟨rfl, ⟨nd, rfl⟩⟩))
      go_roundg k1
      case measure => have := HK1.out; omega
      case rel => exact ⟨(wrap64 (x5_1 + 1)), eqs, H', ⟨by have := HK1.out; omega⟩, drs⟩
     ·replace c7 := Bool.eq_false_iff.mpr c7
      subst c7
      have H1 : (some false) = some r := by rw [if_neg (show ¬ (false = true) by decide)] at H; exact H
      clear H
      have H := H1
      clear H1
      obtain rfl := Option.some.inj H
      go_wp2_with (first | ((with_reducible refine gc 141 rfl ?_); refine gl 12 Try.func141 #[.int .i64 a0, .int .i64 x5_1] ?_; (with_reducible refine (spec_l1Has.calls k1 a0 x5_1 true _ A4.out).mono ?_); rintro e w' ⟨rfl, ⟨nd, rfl⟩⟩; refine ⟨_, rfl, ?_⟩) | (go_at_call 141; (with_reducible refine (spec_l1Has.calls k1 a1 x5_1 false _ A6.out).mono ?_); rintro e w' ⟨rfl, ⟨nd, rfl⟩⟩))
      go_ret
      exact ⟨eqs, drs⟩
    ·replace c5 := Bool.eq_false_iff.mpr c5
     subst c5
     have H1 : (spec_l1Under.l0 k1 a0 a1 (wrap64 (x5_1 + 1))) = some r := by rw [if_neg (show ¬ (false = true) by decide)] at H; exact H
     clear H
     have H := H1
     clear H1
     have H' := Aside0.mk H
     clear H
     go_wp2_with (first | ((with_reducible refine gc 141 rfl ?_); refine gl 12 Try.func141 #[.int .i64 a0, .int .i64 x5_1] ?_; (with_reducible refine (spec_l1Has.calls k1 a0 x5_1 false _ A4.out).mono ?_); rintro e w' ⟨rfl, ⟨nd, rfl⟩⟩; refine ⟨_, rfl, ?_⟩))
     go_roundg k1
     case measure => have := HK1.out; omega
     case rel => exact ⟨(wrap64 (x5_1 + 1)), eqs, H', ⟨by have := HK1.out; omega⟩, drs⟩
   ·rw [if_neg c3] at H
    have c3b0 : decide (x5_1 < 3) = false := decide_eq_false c3
    clear c3
    obtain rfl := Option.some.inj H
    go_wp2
    go_ret
    exact ⟨eqs, drs⟩

/-! ### spec_EdgeOk: function 77 -/
theorem at_rounds {α : Type} {g : Nat → Option α} (hm : ∀ k, LeO (g k) (g (k + 1))) {k0 k : Nat} (h : k0 ≤ k) {r : α} (hr : g k0 = some r) : g k = some r := by
  induction h with
  | refl => exact hr
  | step _ ih => exact hm _ _ ih
theorem sIs (a : Int) : spec_LabelOk.f a = some (isL a) := by
  unfold spec_LabelOk.f isL
  by_cases h : a ≥ 0
  · rw [if_pos h]; simp [h]
  · rw [if_neg h]; simp [h]
theorem sN (a b : Int) : spec_NodeOk.f a b = some (nOk a b) := by
  unfold spec_NodeOk.f
  rw [sIs]
  cases h : isL a
  · simp [nOk, h]
  · by_cases hb : 0 ≤ b
    · simp [nOk, h, hb]
    · simp [nOk, h, hb]
theorem sC2 {a b : Int} (h : nOk a b = true) : spec_l2Code.f a b = some (64 * a + b) := by
  have h' := nOk_iff.1 h
  unfold spec_l2Code.f
  rw [w64 (x := a * 64) (by omega), w64 (x := a * 64 + b) (by omega), Int.mul_comm]
theorem sU8 : ∀ a b : Fin 8, spec_l1Under.f 10 (a.val : Int) (b.val : Int) = some (U a.val b.val) := by decide +kernel
theorem sU {a b : Int} (ha : isL a = true) (hb : isL b = true) : spec_l1Under.f 10 a b = some (U a b) := by
  obtain ⟨x, rfl⟩ := fin8 ha
  obtain ⟨y, rfl⟩ := fin8 hb
  exact sU8 x y
def spec_EdgeOk.f (a0_0 : Int) (a0_1 : Int) (a0_2 : Int) (a0_3 : Int) (a0_4 : Int) : Option (Bool) := some (EOk a0_0 a0_1 a0_2 a0_3 a0_4)
set_option maxHeartbeats 8000000 in
set_option maxRecDepth 100000 in
theorem spec_EdgeOk.calls (a0_0 : Int) (a0_1 : Int) (a0_2 : Int) (a0_3 : Int) (a0_4 : Int) (r : Bool) (w : World) (h : spec_EdgeOk.f a0_0 a0_1 a0_2 a0_3 a0_4 = some r) :
    Calls Try.prog 77 #[.agg #[.int .i64 a0_0, .int .i64 a0_1, .int .i64 a0_2, .int .i64 a0_3, .int .i64 a0_4]] w fun e w' => e = .returned (.bool r) ∧ Below w.heap.size w w' := by
  have hu56 := Try.underlying56
  have hu36 := Try.underlying36
  have HB := Aside0.mk (Below.refl w.heap.size w)
  obtain rfl := Option.some.inj h
  clear h
  have F : ∀ (b1 b2 b3 b4 b5 b6 : Bool), isL a0_0 = b1 → nOk a0_1 a0_2 = b2 → nOk a0_3 a0_4 = b3 → decide (64 * a0_1 + a0_2 < 64 * a0_3 + a0_4) = b4 → U a0_1 a0_0 = b5 → U a0_3 a0_0 = b6 →
      Calls Try.prog 77 #[.agg #[.int .i64 a0_0, .int .i64 a0_1, .int .i64 a0_2, .int .i64 a0_3, .int .i64 a0_4]] w fun e w' => e = .returned (.bool (b1 && (b2 && (b3 && (b4 && (b5 && b6)))))) ∧ Below w.heap.size w w' := by
    intro b1 b2 b3 b4 b5 b6 h1 h2 h3 h4 h5 h6
    have H1 := Aside0.mk h1
    have H2 := Aside0.mk h2
    have H3 := Aside0.mk h3
    have H5 := Aside0.mk h5
    have H6 := Aside0.mk h6
    clear h1 h2 h3 h5 h6
    go_enter Try.func77, Try.ntmps77
    go_wp2_with (first | ((with_reducible refine gate_dst (N := 1) rfl ?_); refine box_event ?hg (N := 1) ?hd (cs := #[.int .i64 a0_0, .int .i64 a0_1, .int .i64 a0_2, .int .i64 a0_3, .int .i64 a0_4]) (t := 56) ?hr ?_; (case hd => rfl); (case hg => rfl); (case hr => first | (go_simp; done) | (go_simp; rfl)); intro gb hg w3 hbox hb; have n0_ := Aside0.mk (below_step HB.out hb); clear HB; have HB := n0_; clear n0_ hg hb))
    have hz0 : ∀ p : Bel w3, p.v.cell? ⟨gb, 0, none⟩ = some (.int .i64 a0_0) := fun p => cell_bel ((blk_cell hbox 0).trans rfl) p
    have hz1 : ∀ p : Bel w3, p.v.cell? ⟨gb, 1, none⟩ = some (.int .i64 a0_1) := fun p => cell_bel ((blk_cell hbox 1).trans rfl) p
    have hz2 : ∀ p : Bel w3, p.v.cell? ⟨gb, 2, none⟩ = some (.int .i64 a0_2) := fun p => cell_bel ((blk_cell hbox 2).trans rfl) p
    have hz3 : ∀ p : Bel w3, p.v.cell? ⟨gb, 3, none⟩ = some (.int .i64 a0_3) := fun p => cell_bel ((blk_cell hbox 3).trans rfl) p
    have hz4 : ∀ p : Bel w3, p.v.cell? ⟨gb, 4, none⟩ = some (.int .i64 a0_4) := fun p => cell_bel ((blk_cell hbox 4).trans rfl) p
    clear hbox
    refine wp_region_bel0 (by kernel_rfl) (by kernel_rfl) ?_
    rcases path6 b1 b2 b3 b4 b5 b6 with rfl | ⟨rfl, rfl⟩ | ⟨rfl, rfl, rfl⟩ | ⟨rfl, rfl, rfl, rfl⟩ | ⟨rfl, rfl, rfl, rfl, rfl⟩ | ⟨rfl, rfl, rfl, rfl, rfl, rfl⟩ | ⟨rfl, rfl, rfl, rfl, rfl, rfl⟩ <;>
    (repeat (go_big_quiet_step (first
        | with_reducible exact calls_bel0 (spec_LabelOk.calls _ _ _ ((sIs a0_0).trans (congrArg some H1.out)))
        | with_reducible exact calls_bel (spec_NodeOk.calls a0_1 a0_2 _ _ ((sN a0_1 a0_2).trans (congrArg some H2.out)))
        | with_reducible exact calls_bel (spec_NodeOk.calls a0_3 a0_4 _ _ ((sN a0_3 a0_4).trans (congrArg some H3.out)))
        | with_reducible exact calls_bel (spec_l2Code.calls a0_1 a0_2 _ _ (sC2 H2.out))
        | with_reducible exact calls_bel (spec_l2Code.calls a0_3 a0_4 _ _ (sC2 H3.out))
        | with_reducible exact calls_bel0 (spec_l1Under.calls 10 a0_1 a0_0 _ _ ((sU (nOk_l H2.out) H1.out).trans (congrArg some H5.out)))
        | with_reducible exact calls_bel0 (spec_l1Under.calls 10 a0_3 a0_0 _ _ ((sU (nOk_l H3.out) H1.out).trans (congrArg some H6.out)))))
     refine wpQuiet_nil ?_
     intro _ hw'
     obtain ⟨⟨wq, hbq⟩, hw''⟩ := hw'
     subst hw''
     go_wp2
     go_ret
     exact ⟨by first | rfl | (simp; done) | (simp [*]; done), below_step HB.out hbq⟩)
  have G := F _ _ _ _ _ _ rfl rfl rfl rfl rfl rfl
  have e : EOk a0_0 a0_1 a0_2 a0_3 a0_4 = (isL a0_0 && (nOk a0_1 a0_2 && (nOk a0_3 a0_4 && (decide (64 * a0_1 + a0_2 < 64 * a0_3 + a0_4) && (U a0_1 a0_0 && U a0_3 a0_0))))) := by
    rfl
  rw [e]
  exact G

/-! ### spec_l2Less: function 78 -/
def spec_l2Less.f (a0_0 : Int) (a0_1 : Int) (a0_2 : Int) (a0_3 : Int) (a0_4 : Int) (a1_0 : Int) (a1_1 : Int) (a1_2 : Int) (a1_3 : Int) (a1_4 : Int) : Option (Bool) := if a0_0 = a1_0 then (if (!(a0_1 == a1_1) || (!(a0_2 == a1_2))) = true then ((spec_l2Code.f a0_1 a0_2).bind fun t112 => ((spec_l2Code.f a1_1 a1_2).bind fun t113 => (some (decide (t112 < t113))))) else ((spec_l2Code.f a0_3 a0_4).bind fun t114 => ((spec_l2Code.f a1_3 a1_4).bind fun t115 => (some (decide (t114 < t115)))))) else (some (decide (a0_0 < a1_0)))
theorem spec_l2Less.calls (a0_0 : Int) (a0_1 : Int) (a0_2 : Int) (a0_3 : Int) (a0_4 : Int) (a1_0 : Int) (a1_1 : Int) (a1_2 : Int) (a1_3 : Int) (a1_4 : Int) (r : Bool) (w : World) (h : spec_l2Less.f a0_0 a0_1 a0_2 a0_3 a0_4 a1_0 a1_1 a1_2 a1_3 a1_4 = some r) :
  Calls Try.prog 78 #[.agg #[.int .i64 a0_0, .int .i64 a0_1, .int .i64 a0_2, .int .i64 a0_3, .int .i64 a0_4], .agg #[.int .i64 a1_0, .int .i64 a1_1, .int .i64 a1_2, .int .i64 a1_3, .int .i64 a1_4]] w fun e w' => e = .returned (.bool r) ∧ Below w.heap.size w w' := by
 have hu56 := Try.underlying56
 have hu36 := Try.underlying36
 have HB := Aside0.mk (Below.refl w.heap.size w)
 have H := h; unfold spec_l2Less.f at H
 clear h
 by_cases c3 : a0_0 = a1_0
 ·rw [if_pos c3] at H
  have c3b0 : (a0_0 == a1_0) = true := beq_iff_eq.mpr c3
  have c3b1 : (a0_0 != a1_0) = false := bne_eq_false_iff_eq.mpr c3
  clear c3
  by_cases c4 : (!(a0_1 == a1_1) || (!(a0_2 == a1_2))) = true
  ·rw [if_pos c4] at H
   have c4b0 : (!(a0_1 == a1_1) || (!(a0_2 == a1_2))) = true := c4
   clear c4
   replace H := Option.bind_eq_some_iff.mp H
   obtain ⟨t112, A50, H⟩ := H
   try dsimp -simprocs only at H
   have A5 := Aside0.mk A50
   clear A50
   replace H := Option.bind_eq_some_iff.mp H
   obtain ⟨t113, A60, H⟩ := H
   try dsimp -simprocs only at H
   have A6 := Aside0.mk A60
   clear A60
   obtain rfl := Option.some.inj H
   go_enter Try.func78, Try.ntmps78
   try go_wp2_with (first | ((with_reducible refine gd 2 rfl ?_); refine bx 2 (cs := #[.int .i64 a0_0, .int .i64 a0_1, .int .i64 a0_2, .int .i64 a0_3, .int .i64 a0_4]) (t := 56) ?_; intro gb110 hg w7 hbox hb; have BK110 := Aside0.mk (hbox); have GW110 := gwb HB hg; replace HB := hs HB hb; clear hb hbox hg) | ((with_reducible refine gd 3 rfl ?_); refine bx 3 (cs := #[.int .i64 a1_0, .int .i64 a1_1, .int .i64 a1_2, .int .i64 a1_3, .int .i64 a1_4]) (t := 56) ?_; intro gb111 hg w8 hbox hb; have BK111 := Aside0.mk (hbox); have GW111 := gwb HB hg; replace HB := hs HB hb; have NB110_111 := nq BK110 hg; have NB111_110 := nq' BK110 hg; replace BK110 := bb BK110 hb rfl; clear hb hbox hg; have hnb9 := NB110_111.out; have hnc9 := NB111_110.out; obtain ⟨hcz10_0, hcz10_1, hcz10_2, hcz10_3, hcz10_4⟩ := bc5 (w := w8) BK110.out; have hfz10 := blk_frozen BK110.out; obtain ⟨hcz11_0, hcz11_1, hcz11_2, hcz11_3, hcz11_4⟩ := bc5 (w := w8) BK111.out; have hfz11 := blk_frozen BK111.out))
   replace BK110 := bd BK110
   replace BK111 := bd BK111
   replace HB := hd HB
   refine wp_region_bel (by kernel_rfl) (by kernel_rfl) ?_
   generalize w8.drew = w12 at BK110 BK111 HB ⊢
   have hbp_ := fun (p_ : Bel w12) => below_step HB.out p_.h
   have hz0_ : ∀ p_ : Bel w12, p_.v.cell? ⟨gb110, 0, none⟩ = some (.int .i64 a0_0) := fun p_ => cell_bel ((blk_cell BK110.out 0).trans rfl) p_
   have hz1_ : ∀ p_ : Bel w12, p_.v.cell? ⟨gb110, 1, none⟩ = some (.int .i64 a0_1) := fun p_ => cell_bel ((blk_cell BK110.out 1).trans rfl) p_
   have hz2_ : ∀ p_ : Bel w12, p_.v.cell? ⟨gb110, 2, none⟩ = some (.int .i64 a0_2) := fun p_ => cell_bel ((blk_cell BK110.out 2).trans rfl) p_
   have hz3_ : ∀ p_ : Bel w12, p_.v.cell? ⟨gb110, 3, none⟩ = some (.int .i64 a0_3) := fun p_ => cell_bel ((blk_cell BK110.out 3).trans rfl) p_
   have hz4_ : ∀ p_ : Bel w12, p_.v.cell? ⟨gb110, 4, none⟩ = some (.int .i64 a0_4) := fun p_ => cell_bel ((blk_cell BK110.out 4).trans rfl) p_
   have hz5_ : ∀ p_ : Bel w12, p_.v.cell? ⟨gb111, 0, none⟩ = some (.int .i64 a1_0) := fun p_ => cell_bel ((blk_cell BK111.out 0).trans rfl) p_
   have hz6_ : ∀ p_ : Bel w12, p_.v.cell? ⟨gb111, 1, none⟩ = some (.int .i64 a1_1) := fun p_ => cell_bel ((blk_cell BK111.out 1).trans rfl) p_
   have hz7_ : ∀ p_ : Bel w12, p_.v.cell? ⟨gb111, 2, none⟩ = some (.int .i64 a1_2) := fun p_ => cell_bel ((blk_cell BK111.out 2).trans rfl) p_
   have hz8_ : ∀ p_ : Bel w12, p_.v.cell? ⟨gb111, 3, none⟩ = some (.int .i64 a1_3) := fun p_ => cell_bel ((blk_cell BK111.out 3).trans rfl) p_
   have hz9_ : ∀ p_ : Bel w12, p_.v.cell? ⟨gb111, 4, none⟩ = some (.int .i64 a1_4) := fun p_ => cell_bel ((blk_cell BK111.out 4).trans rfl) p_
   repeat (go_big_quiet_step (first
    | (with_reducible show Calls Try.prog 76 #[.agg #[.int .i64 a0_1, .int .i64 a0_2]] _ _; with_reducible exact calls_bel (spec_l2Code.calls a0_1 a0_2 t112 _ A5.out))
    | (with_reducible show Calls Try.prog 76 #[.agg #[.int .i64 a1_1, .int .i64 a1_2]] _ _; with_reducible exact calls_bel (spec_l2Code.calls a1_1 a1_2 t113 _ A6.out))))
   refine wpQuiet_nil ?_
   intro w14 hw'
   obtain ⟨⟨wq_, hb⟩, hw''⟩ := hw'
   subst hw''
   clear hbp_ hz0_ hz1_ hz2_ hz3_ hz4_ hz5_ hz6_ hz7_ hz8_ hz9_
   replace BK110 := bb BK110 hb rfl
   replace BK111 := bb BK111 hb rfl
   replace HB := hs HB hb
   (try clear hb)
   (try clear hb2)
   (try clear hk)
   (try clear hi)
   try go_wp2
   go_ret
   exact ⟨eqr, bs HB.out⟩
  ·rw [if_neg c4] at H
   have c4b0 : (!(a0_1 == a1_1) || (!(a0_2 == a1_2))) = false := by simpa using c4
   clear c4
   replace H := Option.bind_eq_some_iff.mp H
   obtain ⟨t114, A150, H⟩ := H
   try dsimp -simprocs only at H
   have A15 := Aside0.mk A150
   clear A150
   replace H := Option.bind_eq_some_iff.mp H
   obtain ⟨t115, A160, H⟩ := H
   try dsimp -simprocs only at H
   have A16 := Aside0.mk A160
   clear A160
   obtain rfl := Option.some.inj H
   go_enter Try.func78, Try.ntmps78
   try go_wp2_with (first | ((with_reducible refine gd 2 rfl ?_); refine bx 2 (cs := #[.int .i64 a0_0, .int .i64 a0_1, .int .i64 a0_2, .int .i64 a0_3, .int .i64 a0_4]) (t := 56) ?_; intro gb110 hg w17 hbox hb; have BK110 := Aside0.mk (hbox); have GW110 := gwb HB hg; replace HB := hs HB hb; clear hb hbox hg) | ((with_reducible refine gd 3 rfl ?_); refine bx 3 (cs := #[.int .i64 a1_0, .int .i64 a1_1, .int .i64 a1_2, .int .i64 a1_3, .int .i64 a1_4]) (t := 56) ?_; intro gb111 hg w18 hbox hb; have BK111 := Aside0.mk (hbox); have GW111 := gwb HB hg; replace HB := hs HB hb; have NB110_111 := nq BK110 hg; have NB111_110 := nq' BK110 hg; replace BK110 := bb BK110 hb rfl; clear hb hbox hg; have hnb19 := NB110_111.out; have hnc19 := NB111_110.out; obtain ⟨hcz20_0, hcz20_1, hcz20_2, hcz20_3, hcz20_4⟩ := bc5 (w := w18) BK110.out; have hfz20 := blk_frozen BK110.out; obtain ⟨hcz21_0, hcz21_1, hcz21_2, hcz21_3, hcz21_4⟩ := bc5 (w := w18) BK111.out; have hfz21 := blk_frozen BK111.out))
   replace BK110 := bd BK110
   replace BK111 := bd BK111
   replace HB := hd HB
   refine wp_region_bel (by kernel_rfl) (by kernel_rfl) ?_
   generalize w18.drew = w22 at BK110 BK111 HB ⊢
   have hbp_ := fun (p_ : Bel w22) => below_step HB.out p_.h
   have hz0_ : ∀ p_ : Bel w22, p_.v.cell? ⟨gb110, 0, none⟩ = some (.int .i64 a0_0) := fun p_ => cell_bel ((blk_cell BK110.out 0).trans rfl) p_
   have hz1_ : ∀ p_ : Bel w22, p_.v.cell? ⟨gb110, 1, none⟩ = some (.int .i64 a0_1) := fun p_ => cell_bel ((blk_cell BK110.out 1).trans rfl) p_
   have hz2_ : ∀ p_ : Bel w22, p_.v.cell? ⟨gb110, 2, none⟩ = some (.int .i64 a0_2) := fun p_ => cell_bel ((blk_cell BK110.out 2).trans rfl) p_
   have hz3_ : ∀ p_ : Bel w22, p_.v.cell? ⟨gb110, 3, none⟩ = some (.int .i64 a0_3) := fun p_ => cell_bel ((blk_cell BK110.out 3).trans rfl) p_
   have hz4_ : ∀ p_ : Bel w22, p_.v.cell? ⟨gb110, 4, none⟩ = some (.int .i64 a0_4) := fun p_ => cell_bel ((blk_cell BK110.out 4).trans rfl) p_
   have hz5_ : ∀ p_ : Bel w22, p_.v.cell? ⟨gb111, 0, none⟩ = some (.int .i64 a1_0) := fun p_ => cell_bel ((blk_cell BK111.out 0).trans rfl) p_
   have hz6_ : ∀ p_ : Bel w22, p_.v.cell? ⟨gb111, 1, none⟩ = some (.int .i64 a1_1) := fun p_ => cell_bel ((blk_cell BK111.out 1).trans rfl) p_
   have hz7_ : ∀ p_ : Bel w22, p_.v.cell? ⟨gb111, 2, none⟩ = some (.int .i64 a1_2) := fun p_ => cell_bel ((blk_cell BK111.out 2).trans rfl) p_
   have hz8_ : ∀ p_ : Bel w22, p_.v.cell? ⟨gb111, 3, none⟩ = some (.int .i64 a1_3) := fun p_ => cell_bel ((blk_cell BK111.out 3).trans rfl) p_
   have hz9_ : ∀ p_ : Bel w22, p_.v.cell? ⟨gb111, 4, none⟩ = some (.int .i64 a1_4) := fun p_ => cell_bel ((blk_cell BK111.out 4).trans rfl) p_
   repeat (go_big_quiet_step (first
    | (with_reducible show Calls Try.prog 76 #[.agg #[.int .i64 a0_3, .int .i64 a0_4]] _ _; with_reducible exact calls_bel (spec_l2Code.calls a0_3 a0_4 t114 _ A15.out))
    | (with_reducible show Calls Try.prog 76 #[.agg #[.int .i64 a1_3, .int .i64 a1_4]] _ _; with_reducible exact calls_bel (spec_l2Code.calls a1_3 a1_4 t115 _ A16.out))))
   refine wpQuiet_nil ?_
   intro w24 hw'
   obtain ⟨⟨wq_, hb⟩, hw''⟩ := hw'
   subst hw''
   clear hbp_ hz0_ hz1_ hz2_ hz3_ hz4_ hz5_ hz6_ hz7_ hz8_ hz9_
   replace BK110 := bb BK110 hb rfl
   replace BK111 := bb BK111 hb rfl
   replace HB := hs HB hb
   (try clear hb)
   (try clear hb2)
   (try clear hk)
   (try clear hi)
   try go_wp2
   go_ret
   exact ⟨eqr, bs HB.out⟩
 ·rw [if_neg c3] at H
  have c3b0 : (a0_0 == a1_0) = false := beq_eq_false_iff_ne.mpr c3
  have c3b1 : (a0_0 != a1_0) = true := bne_iff_ne.mpr c3
  obtain rfl := Option.some.inj H
  go_enter Try.func78, Try.ntmps78
  go_wp2_with (first | ((with_reducible refine gd 2 rfl ?_); refine bx 2 (cs := #[.int .i64 a0_0, .int .i64 a0_1, .int .i64 a0_2, .int .i64 a0_3, .int .i64 a0_4]) (t := 56) ?_; intro gb110 hg w25 hbox hb; have BK110 := Aside0.mk (hbox); have GW110 := gwb HB hg; replace HB := hs HB hb; clear hb hbox hg) | ((with_reducible refine gd 3 rfl ?_); refine bx 3 (cs := #[.int .i64 a1_0, .int .i64 a1_1, .int .i64 a1_2, .int .i64 a1_3, .int .i64 a1_4]) (t := 56) ?_; intro gb111 hg w26 hbox hb; have BK111 := Aside0.mk (hbox); have GW111 := gwb HB hg; replace HB := hs HB hb; have NB110_111 := nq BK110 hg; have NB111_110 := nq' BK110 hg; replace BK110 := bb BK110 hb rfl; clear hb hbox hg; have hnb27 := NB110_111.out; have hnc27 := NB111_110.out; obtain ⟨hcz28_0, hcz28_1, hcz28_2, hcz28_3, hcz28_4⟩ := bc5 (w := w26) BK110.out; have hfz28 := blk_frozen BK110.out; obtain ⟨hcz29_0, hcz29_1, hcz29_2, hcz29_3, hcz29_4⟩ := bc5 (w := w26) BK111.out; have hfz29 := blk_frozen BK111.out))
  go_ret
  exact ⟨eqr, bs HB.out⟩

/-! ### spec_l2Nodes: function 79 -/
def spec_l2Nodes.l0 : Nat → Int → Int → Int → List (S36) → List (S56) → Option (Int)
 | 0, _, _, _, _, _ => none
 | k + 1, x1, x5, x6, x117000, x117001 => if x6 < (x117000.length : Int) then (if 0 ≤ x6 then (if ((rd_T36 x117000 x6).f0) = x1 then (spec_l2Nodes.l0 k x1 (wrap64 (x5 + 1)) (wrap64 (x6 + 1)) x117000 x117001) else (spec_l2Nodes.l0 k x1 x5 (wrap64 (x6 + 1)) x117000 x117001)) else (none)) else (some x5)
def spec_l2Nodes.f (k : Nat) (l0_0 : List (S36)) (l0_1 : List (S56)) (a1 : Int) : Option (Int) := spec_l2Nodes.l0 k a1 0 0 l0_0 l0_1
theorem spec_l2Nodes.calls (k : Nat) (A0_0 : Option Addr) (c0_0 : Nat) (l0_0 : List (S36)) (A0_1 : Option Addr) (c0_1 : Nat) (l0_1 : List (S56)) (a1 : Int) (r : Int) (w : World) (hr0_0 : Kd.C k36 w A0_0 l0_0.length l0_0) (hc0_0 : l0_0.length ≤ c0_0) (hr0_1 : Kd.C k56 w A0_1 l0_1.length l0_1) (hc0_1 : l0_1.length ≤ c0_1) (h : spec_l2Nodes.f k l0_0 l0_1 a1 = some r) :
  Calls Try.prog 79 #[.agg #[.slice A0_0 l0_0.length c0_0, .slice A0_1 l0_1.length c0_1], .int .i64 a1] w fun e w' => e = .returned (.int .i64 r) ∧ Below w.heap.size w w' := by
 have hu34 := Try.underlying34
 have HR0_0 := Aside0.mk hr0_0
 have HC0_0 := Aside0.mk hc0_0
 clear hr0_0 hc0_0
 have HR0_1 := Aside0.mk hr0_1
 have HC0_1 := Aside0.mk hc0_1
 clear hr0_1 hc0_1
 have HB := Aside0.mk (Below.refl w.heap.size w)
 have H := h; unfold spec_l2Nodes.f at H
 clear h
 have H' := Aside0.mk H
 clear H
 go_enter Try.func79, Try.ntmps79
 go_wp2_with (first | ((with_reducible refine gd 2 rfl ?_); refine bx 2 (cs := #[.slice A0_0 l0_0.length c0_0, .slice A0_1 l0_1.length c0_1]) (t := 34) ?_; intro gb116 hg w3 hbox hb; have BK116 := Aside0.mk (hbox); have GW116 := gwb HB hg; replace HB := hs HB hb; clear hb hbox hg))
 go_loopg [5, 6] k (fun kq v5 v6 w' => ∃ (x5_1 : Int) (x6_1 : Int), v5 = .int .i64 x5_1 ∧ v6 = .int .i64 x6_1 ∧ Aside0 (spec_l2Nodes.l0 kq a1 x5_1 x6_1 l0_0 l0_1 = some r) ∧ Aside0 (kq ≤ k) ∧ Aside0 (w'.heap[gb116]? = some (.cells #[(.slice A0_0 l0_0.length c0_0), (.slice A0_1 l0_1.length c0_1)] 34 (0, 0))) ∧ Aside0 (Below w.heap.size w w'))
 case atStart => exact ⟨(0), (0), eqs, eqs, H', ⟨Nat.le_refl _⟩, ⟨bf BK116.out⟩, ⟨bs HB.out⟩⟩
 case round =>
  clear H'
  try clear p2
  obtain ⟨x5_1, x6_1, rfl, rfl, HA, HK1, BK116, HB⟩ := hrel
  cases gk with
  | zero => exact absurd HA.out (by simp [spec_l2Nodes.l0])
  | succ k1 =>
   have H := HA.out
   clear HA
   simp only [spec_l2Nodes.l0] at H
   by_cases c4 : x6_1 < (l0_0.length : Int)
   ·rw [if_pos c4] at H
    have c4b0 : decide (x6_1 < (l0_0.length : Int)) = true := decide_eq_true c4
    clear c4
    by_cases c5 : 0 ≤ x6_1
    ·rw [if_pos c5] at H
     have c5b0 : decide (0 ≤ x6_1) = true := decide_eq_true c5
     clear c5
     by_cases c6 : ((rd_T36 l0_0 x6_1).f0) = a1
     ·rw [if_pos c6] at H
      have c6b0 : (((rd_T36 l0_0 x6_1).f0) == a1) = true := beq_iff_eq.mpr c6
      have c6b1 : (((rd_T36 l0_0 x6_1).f0) != a1) = false := bne_eq_false_iff_eq.mpr c6
      clear c6
      have H' := Aside0.mk H
      clear H
      obtain ⟨hcz7_0, hcz7_1⟩ := bc2 (w := wr) BK116.out
      have hfz7 := blk_frozen BK116.out
      have p117 : 0 ≤ (x6_1 : Int) := oda
      have q117 : x6_1 < (l0_0.length : Int) := oda
      obtain ⟨ad117, e117, hx117_0, hx117_1⟩ := at_T36 HR0_0.out x6_1 p117 q117
      cases e117
      replace hx117_0 := cb HB hx117_0
      replace hx117_1 := cb HB hx117_1
      replace p117 := eq_true p117
      replace q117 := eq_true q117
      go_wp2
      go_roundg k1
      case measure => have := HK1.out; omega
      case rel => exact ⟨(wrap64 (x5_1 + 1)), (wrap64 (x6_1 + 1)), eqs, eqs, H', ⟨by have := HK1.out; omega⟩, ⟨bf BK116.out⟩, ⟨bs HB.out⟩⟩
     ·rw [if_neg c6] at H
      have c6b0 : (((rd_T36 l0_0 x6_1).f0) == a1) = false := beq_eq_false_iff_ne.mpr c6
      have c6b1 : (((rd_T36 l0_0 x6_1).f0) != a1) = true := bne_iff_ne.mpr c6
      have H' := Aside0.mk H
      clear H
      obtain ⟨hcz8_0, hcz8_1⟩ := bc2 (w := wr) BK116.out
      have hfz8 := blk_frozen BK116.out
      have p117 : 0 ≤ (x6_1 : Int) := oda
      have q117 : x6_1 < (l0_0.length : Int) := oda
      obtain ⟨ad117, e117, hx117_0, hx117_1⟩ := at_T36 HR0_0.out x6_1 p117 q117
      cases e117
      replace hx117_0 := cb HB hx117_0
      replace hx117_1 := cb HB hx117_1
      replace p117 := eq_true p117
      replace q117 := eq_true q117
      go_wp2
      go_roundg k1
      case measure => have := HK1.out; omega
      case rel => exact ⟨(x5_1), (wrap64 (x6_1 + 1)), eqs, eqs, H', ⟨by have := HK1.out; omega⟩, ⟨bf BK116.out⟩, ⟨bs HB.out⟩⟩
    ·rw [if_neg c5] at H
     exact absurd H (by simp)
   ·rw [if_neg c4] at H
    have c4b0 : decide (x6_1 < (l0_0.length : Int)) = false := decide_eq_false c4
    clear c4
    obtain rfl := Option.some.inj H
    obtain ⟨hcz9_0, hcz9_1⟩ := bc2 (w := wr) BK116.out
    have hfz9 := blk_frozen BK116.out
    go_wp2
    go_ret
    exact ⟨eqr, bs HB.out⟩

/-! ### spec_l2Edges: function 80 -/
def spec_l2Edges.l0 : Nat → Int → Int → Int → List (S36) → List (S56) → Option (Int)
 | 0, _, _, _, _, _ => none
 | k + 1, x1, x5, x6, x119000, x119001 => if x6 < (x119001.length : Int) then (if 0 ≤ x6 then (if ((rd_T56 x119001 x6).f0) = x1 then (spec_l2Edges.l0 k x1 (wrap64 (x5 + 1)) (wrap64 (x6 + 1)) x119000 x119001) else (spec_l2Edges.l0 k x1 x5 (wrap64 (x6 + 1)) x119000 x119001)) else (none)) else (some x5)
def spec_l2Edges.f (k : Nat) (l0_0 : List (S36)) (l0_1 : List (S56)) (a1 : Int) : Option (Int) := spec_l2Edges.l0 k a1 0 0 l0_0 l0_1
theorem spec_l2Edges.calls (k : Nat) (A0_0 : Option Addr) (c0_0 : Nat) (l0_0 : List (S36)) (A0_1 : Option Addr) (c0_1 : Nat) (l0_1 : List (S56)) (a1 : Int) (r : Int) (w : World) (hr0_0 : Kd.C k36 w A0_0 l0_0.length l0_0) (hc0_0 : l0_0.length ≤ c0_0) (hr0_1 : Kd.C k56 w A0_1 l0_1.length l0_1) (hc0_1 : l0_1.length ≤ c0_1) (h : spec_l2Edges.f k l0_0 l0_1 a1 = some r) :
  Calls Try.prog 80 #[.agg #[.slice A0_0 l0_0.length c0_0, .slice A0_1 l0_1.length c0_1], .int .i64 a1] w fun e w' => e = .returned (.int .i64 r) ∧ Below w.heap.size w w' := by
 have hu34 := Try.underlying34
 have HR0_0 := Aside0.mk hr0_0
 have HC0_0 := Aside0.mk hc0_0
 clear hr0_0 hc0_0
 have HR0_1 := Aside0.mk hr0_1
 have HC0_1 := Aside0.mk hc0_1
 clear hr0_1 hc0_1
 have HB := Aside0.mk (Below.refl w.heap.size w)
 have H := h; unfold spec_l2Edges.f at H
 clear h
 have H' := Aside0.mk H
 clear H
 go_enter Try.func80, Try.ntmps80
 go_wp2_with (first | ((with_reducible refine gd 2 rfl ?_); refine bx 2 (cs := #[.slice A0_0 l0_0.length c0_0, .slice A0_1 l0_1.length c0_1]) (t := 34) ?_; intro gb118 hg w3 hbox hb; have BK118 := Aside0.mk (hbox); have GW118 := gwb HB hg; replace HB := hs HB hb; clear hb hbox hg))
 go_loopg [5, 6] k (fun kq v5 v6 w' => ∃ (x5_1 : Int) (x6_1 : Int), v5 = .int .i64 x5_1 ∧ v6 = .int .i64 x6_1 ∧ Aside0 (spec_l2Edges.l0 kq a1 x5_1 x6_1 l0_0 l0_1 = some r) ∧ Aside0 (kq ≤ k) ∧ Aside0 (w'.heap[gb118]? = some (.cells #[(.slice A0_0 l0_0.length c0_0), (.slice A0_1 l0_1.length c0_1)] 34 (0, 0))) ∧ Aside0 (Below w.heap.size w w'))
 case atStart => exact ⟨(0), (0), eqs, eqs, H', ⟨Nat.le_refl _⟩, ⟨bf BK118.out⟩, ⟨bs HB.out⟩⟩
 case round =>
  clear H'
  try clear p2
  obtain ⟨x5_1, x6_1, rfl, rfl, HA, HK1, BK118, HB⟩ := hrel
  cases gk with
  | zero => exact absurd HA.out (by simp [spec_l2Edges.l0])
  | succ k1 =>
   have H := HA.out
   clear HA
   simp only [spec_l2Edges.l0] at H
   by_cases c4 : x6_1 < (l0_1.length : Int)
   ·rw [if_pos c4] at H
    have c4b0 : decide (x6_1 < (l0_1.length : Int)) = true := decide_eq_true c4
    clear c4
    by_cases c5 : 0 ≤ x6_1
    ·rw [if_pos c5] at H
     have c5b0 : decide (0 ≤ x6_1) = true := decide_eq_true c5
     clear c5
     by_cases c6 : ((rd_T56 l0_1 x6_1).f0) = a1
     ·rw [if_pos c6] at H
      have c6b0 : (((rd_T56 l0_1 x6_1).f0) == a1) = true := beq_iff_eq.mpr c6
      have c6b1 : (((rd_T56 l0_1 x6_1).f0) != a1) = false := bne_eq_false_iff_eq.mpr c6
      clear c6
      have H' := Aside0.mk H
      clear H
      obtain ⟨hcz7_0, hcz7_1⟩ := bc2 (w := wr) BK118.out
      have hfz7 := blk_frozen BK118.out
      have p119 : 0 ≤ (x6_1 : Int) := oda
      have q119 : x6_1 < (l0_1.length : Int) := oda
      obtain ⟨ad119, e119, hx119_0, hx119_1, hx119_2, hx119_3, hx119_4⟩ := at_T56 HR0_1.out x6_1 p119 q119
      cases e119
      replace hx119_0 := cb HB hx119_0
      replace hx119_1 := cb HB hx119_1
      replace hx119_2 := cb HB hx119_2
      replace hx119_3 := cb HB hx119_3
      replace hx119_4 := cb HB hx119_4
      replace p119 := eq_true p119
      replace q119 := eq_true q119
      go_wp2
      go_roundg k1
      case measure => have := HK1.out; omega
      case rel => exact ⟨(wrap64 (x5_1 + 1)), (wrap64 (x6_1 + 1)), eqs, eqs, H', ⟨by have := HK1.out; omega⟩, ⟨bf BK118.out⟩, ⟨bs HB.out⟩⟩
     ·rw [if_neg c6] at H
      have c6b0 : (((rd_T56 l0_1 x6_1).f0) == a1) = false := beq_eq_false_iff_ne.mpr c6
      have c6b1 : (((rd_T56 l0_1 x6_1).f0) != a1) = true := bne_iff_ne.mpr c6
      have H' := Aside0.mk H
      clear H
      obtain ⟨hcz8_0, hcz8_1⟩ := bc2 (w := wr) BK118.out
      have hfz8 := blk_frozen BK118.out
      have p119 : 0 ≤ (x6_1 : Int) := oda
      have q119 : x6_1 < (l0_1.length : Int) := oda
      obtain ⟨ad119, e119, hx119_0, hx119_1, hx119_2, hx119_3, hx119_4⟩ := at_T56 HR0_1.out x6_1 p119 q119
      cases e119
      replace hx119_0 := cb HB hx119_0
      replace hx119_1 := cb HB hx119_1
      replace hx119_2 := cb HB hx119_2
      replace hx119_3 := cb HB hx119_3
      replace hx119_4 := cb HB hx119_4
      replace p119 := eq_true p119
      replace q119 := eq_true q119
      go_wp2
      go_roundg k1
      case measure => have := HK1.out; omega
      case rel => exact ⟨(x5_1), (wrap64 (x6_1 + 1)), eqs, eqs, H', ⟨by have := HK1.out; omega⟩, ⟨bf BK118.out⟩, ⟨bs HB.out⟩⟩
    ·rw [if_neg c5] at H
     exact absurd H (by simp)
   ·rw [if_neg c4] at H
    have c4b0 : decide (x6_1 < (l0_1.length : Int)) = false := decide_eq_false c4
    clear c4
    obtain rfl := Option.some.inj H
    obtain ⟨hcz9_0, hcz9_1⟩ := bc2 (w := wr) BK118.out
    have hfz9 := blk_frozen BK118.out
    go_wp2
    go_ret
    exact ⟨eqr, bs HB.out⟩

end Go.Proofs.Ytohmemckdogljaa.QFnGraphView
