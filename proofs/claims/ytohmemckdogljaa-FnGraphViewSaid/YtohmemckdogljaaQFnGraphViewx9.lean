/- Contracts of the Go functions that this law reaches: each does what its plain Lean function says. No condition. -/
import Derived.Test.YtohmemckdogljaaQFnGraphViewx0
import Derived.Test.YtohmemckdogljaaQFnGraphViewx3
import Derived.Test.YtohmemckdogljaaQFnGraphViewx8
namespace Go.Proofs.Ytohmemckdogljaa.QFnGraphView
open Go.RowKit Go.Proofs.YtohmemckdogljaaW.PrintWords Go.Proofs.YtohmemckdogljaaW.PrintLast Go.Proofs.YtohmemckdogljaaW.PrintMore Go.Proofs.Ytohmemckdogljaa.Bl
attribute [local go_sem] max2_int min2_int max_two min_two max_three min_three max_four min_four   -- for this text's walks alone
set_option linter.unusedVariables false
set_option linter.unusedSimpArgs false
set_option maxHeartbeats 8000000
set_option maxRecDepth 100000

/-! ### spec_l1Mix: function 143 -/
def spec_l1Mix.l0 : Nat → Int → Int → Bool → Int → Int → Option (Int)
 | 0, _, _, _, _, _ => none
 | k + 1, x0, x1, x2, x7, x8 => if x8 ≥ 0 then ((spec_l1Has.f k x0 x8).bind fun t222 => ((spec_l1Has.f k x1 x8).bind fun t223 => (if t222 = true then (if t223 = true then (spec_l1Mix.l0 k x0 x1 x2 (wrap64 ((wrap64 (x7 * 2)) + 1)) (wrap64 (x8 - 1))) else (if x2 = true then (spec_l1Mix.l0 k x0 x1 x2 (wrap64 (x7 * 2)) (wrap64 (x8 - 1))) else (spec_l1Mix.l0 k x0 x1 x2 (wrap64 ((wrap64 (x7 * 2)) + 1)) (wrap64 (x8 - 1))))) else (if x2 = true then (spec_l1Mix.l0 k x0 x1 x2 (wrap64 (x7 * 2)) (wrap64 (x8 - 1))) else (if t223 = true then (spec_l1Mix.l0 k x0 x1 x2 (wrap64 ((wrap64 (x7 * 2)) + 1)) (wrap64 (x8 - 1))) else (spec_l1Mix.l0 k x0 x1 x2 (wrap64 (x7 * 2)) (wrap64 (x8 - 1)))))))) else (some x7)
def spec_l1Mix.f (k : Nat) (a0 : Int) (a1 : Int) (a2 : Bool) : Option (Int) := spec_l1Mix.l0 k a0 a1 a2 0 2
theorem spec_l1Mix.calls (k : Nat) (a0 : Int) (a1 : Int) (a2 : Bool) (r : Int) (w : World) (h : spec_l1Mix.f k a0 a1 a2 = some r) :
  Calls Try.prog 143 #[.int .i64 a0, .int .i64 a1, .bool a2] w fun e w' => e = .returned (.int .i64 r) ∧ Drawn0 w w' := by
 have H := h; unfold spec_l1Mix.f at H
 clear h
 have H' := Aside0.mk H
 clear H
 go_enter Try.func143, Try.ntmps143
 go_wp2
 go_loopg [7, 8] k (fun kq v7 v8 w' => ∃ (x7_1 : Int) (x8_1 : Int), v7 = .int .i64 x7_1 ∧ v8 = .int .i64 x8_1 ∧ Aside0 (spec_l1Mix.l0 kq a0 a1 a2 x7_1 x8_1 = some r) ∧ Aside0 (kq ≤ k) ∧ Drawn0 w w')
 case atStart => exact ⟨(0), (2), eqs, eqs, H', ⟨Nat.le_refl _⟩, drs⟩
 case round =>
  clear H'
  try clear c1
  try clear p2
  obtain ⟨x7_1, x8_1, rfl, rfl, HA, HK1, ⟨m1, rfl⟩⟩ := hrel
  cases gk with
  | zero => exact absurd HA.out (by simp [spec_l1Mix.l0])
  | succ k1 =>
   have H := HA.out
   clear HA
   simp only [spec_l1Mix.l0] at H
   by_cases c4 : x8_1 ≥ 0
   ·rw [if_pos c4] at H
    have c4b0 : decide (0 ≤ x8_1) = true := decide_eq_true c4
    clear c4
    replace H := Option.bind_eq_some_iff.mp H
    obtain ⟨t222, A50, H⟩ := H
    try dsimp -simprocs only at H
    have A5 := Aside0.mk A50
    clear A50
    replace H := Option.bind_eq_some_iff.mp H
    obtain ⟨t223, A60, H⟩ := H
    try dsimp -simprocs only at H
    have A6 := Aside0.mk A60
    clear A60
    by_cases c7 : t222 = true
    ·subst c7
     have H1 : (if t223 = true then (spec_l1Mix.l0 k1 a0 a1 a2 (wrap64 ((wrap64 (x7_1 * 2)) + 1)) (wrap64 (x8_1 - 1))) else (if a2 = true then (spec_l1Mix.l0 k1 a0 a1 a2 (wrap64 (x7_1 * 2)) (wrap64 (x8_1 - 1))) else (spec_l1Mix.l0 k1 a0 a1 a2 (wrap64 ((wrap64 (x7_1 * 2)) + 1)) (wrap64 (x8_1 - 1))))) = some r := by rw [if_pos rfl] at H; exact H
     clear H
     have H := H1
     clear H1
     by_cases c8 : t223 = true
     ·subst c8
      have H1 : (spec_l1Mix.l0 k1 a0 a1 a2 (wrap64 ((wrap64 (x7_1 * 2)) + 1)) (wrap64 (x8_1 - 1))) = some r := by rw [if_pos rfl] at H; exact H
      clear H
      have H := H1
      clear H1
      have H' := Aside0.mk H
      clear H
      go_wp2_with (first | ((with_reducible refine gc 141 rfl ?_); refine gl 19 Try.func141 #[.int .i64 a0, .int .i64 x8_1] ?_; (with_reducible refine (spec_l1Has.calls k1 a0 x8_1 true _ A5.out).mono ?_); rintro e w' ⟨rfl, ⟨nd, rfl⟩⟩; refine ⟨_, rfl, ?_⟩) | ((with_reducible refine gc 141 rfl ?_); refine gl 22 Try.func141 #[.int .i64 a1, .int .i64 x8_1] ?_; (with_reducible refine (spec_l1Has.calls k1 a1 x8_1 true _ A6.out).mono ?_); rintro e w' ⟨rfl, ⟨nd, rfl⟩⟩; refine ⟨_, rfl, ?_⟩))
      go_roundg k1
      case measure => have := HK1.out; omega
      case rel => exact ⟨(wrap64 ((wrap64 (x7_1 * 2)) + 1)), (wrap64 (x8_1 - 1)), eqs, eqs, H', ⟨by have := HK1.out; omega⟩, drs⟩
     ·replace c8 := Bool.eq_false_iff.mpr c8
      subst c8
      have H1 : (if a2 = true then (spec_l1Mix.l0 k1 a0 a1 a2 (wrap64 (x7_1 * 2)) (wrap64 (x8_1 - 1))) else (spec_l1Mix.l0 k1 a0 a1 a2 (wrap64 ((wrap64 (x7_1 * 2)) + 1)) (wrap64 (x8_1 - 1)))) = some r := by rw [if_neg (show ¬ (false = true) by decide)] at H; exact H
      clear H
      have H := H1
      clear H1
      by_cases c9 : a2 = true
      ·subst c9
       have H1 : (spec_l1Mix.l0 k1 a0 a1 true (wrap64 (x7_1 * 2)) (wrap64 (x8_1 - 1))) = some r := by rw [if_pos rfl] at H; exact H
       clear H
       have H := H1
       clear H1
       have H' := Aside0.mk H
       clear H
       go_wp2_with (first | ((with_reducible refine gc 141 rfl ?_); refine gl 19 Try.func141 #[.int .i64 a0, .int .i64 x8_1] ?_; (with_reducible refine (spec_l1Has.calls k1 a0 x8_1 true _ A5.out).mono ?_); rintro e w' ⟨rfl, ⟨nd, rfl⟩⟩; refine ⟨_, rfl, ?_⟩) | ((with_reducible refine gc 141 rfl ?_); refine gl 22 Try.func141 #[.int .i64 a1, .int .i64 x8_1] ?_; (with_reducible refine (spec_l1Has.calls k1 a1 x8_1 false _ A6.out).mono ?_); rintro e w' ⟨rfl, ⟨nd, rfl⟩⟩; refine ⟨_, rfl, ?_⟩))
       go_roundg k1
       case measure => have := HK1.out; omega
       case rel => exact ⟨(wrap64 (x7_1 * 2)), (wrap64 (x8_1 - 1)), eqs, eqs, H', ⟨by have := HK1.out; omega⟩, drs⟩
      ·replace c9 := Bool.eq_false_iff.mpr c9
       subst c9
       have H1 : (spec_l1Mix.l0 k1 a0 a1 false (wrap64 ((wrap64 (x7_1 * 2)) + 1)) (wrap64 (x8_1 - 1))) = some r := by rw [if_neg (show ¬ (false = true) by decide)] at H; exact H
       clear H
       have H := H1
       clear H1
       have H' := Aside0.mk H
       clear H
       go_wp2_with (first | ((with_reducible refine gc 141 rfl ?_); refine gl 19 Try.func141 #[.int .i64 a0, .int .i64 x8_1] ?_; (with_reducible refine (spec_l1Has.calls k1 a0 x8_1 true _ A5.out).mono ?_); rintro e w' ⟨rfl, ⟨nd, rfl⟩⟩; refine ⟨_, rfl, ?_⟩) | ((with_reducible refine gc 141 rfl ?_); refine gl 22 Try.func141 #[.int .i64 a1, .int .i64 x8_1] ?_; (with_reducible refine (spec_l1Has.calls k1 a1 x8_1 false _ A6.out).mono ?_); rintro e w' ⟨rfl, ⟨nd, rfl⟩⟩; refine ⟨_, rfl, ?_⟩))
       go_roundg k1
       case measure => have := HK1.out; omega
       case rel => exact ⟨(wrap64 ((wrap64 (x7_1 * 2)) + 1)), (wrap64 (x8_1 - 1)), eqs, eqs, H', ⟨by have := HK1.out; omega⟩, drs⟩
    ·replace c7 := Bool.eq_false_iff.mpr c7
     subst c7
     have H1 : (if a2 = true then (spec_l1Mix.l0 k1 a0 a1 a2 (wrap64 (x7_1 * 2)) (wrap64 (x8_1 - 1))) else (if t223 = true then (spec_l1Mix.l0 k1 a0 a1 a2 (wrap64 ((wrap64 (x7_1 * 2)) + 1)) (wrap64 (x8_1 - 1))) else (spec_l1Mix.l0 k1 a0 a1 a2 (wrap64 (x7_1 * 2)) (wrap64 (x8_1 - 1))))) = some r := by rw [if_neg (show ¬ (false = true) by decide)] at H; exact H
     clear H
     have H := H1
     clear H1
     by_cases c10 : a2 = true
     ·subst c10
      have H1 : (spec_l1Mix.l0 k1 a0 a1 true (wrap64 (x7_1 * 2)) (wrap64 (x8_1 - 1))) = some r := by rw [if_pos rfl] at H; exact H
      clear H
      have H := H1
      clear H1
      have H' := Aside0.mk H
      clear H
      go_wp2_with (first | ((with_reducible refine gc 141 rfl ?_); refine gl 19 Try.func141 #[.int .i64 a0, .int .i64 x8_1] ?_; (with_reducible refine (spec_l1Has.calls k1 a0 x8_1 false _ A5.out).mono ?_); rintro e w' ⟨rfl, ⟨nd, rfl⟩⟩; refine ⟨_, rfl, ?_⟩) | ((with_reducible refine gc 141 rfl ?_); refine gl 22 Try.func141 #[.int .i64 a1, .int .i64 x8_1] ?_; (with_reducible refine (spec_l1Has.calls k1 a1 x8_1 t223 _ A6.out).mono ?_); rintro e w' ⟨rfl, ⟨nd, rfl⟩⟩; refine ⟨_, rfl, ?_⟩))
      go_roundg k1
      case measure => have := HK1.out; omega
      case rel => exact ⟨(wrap64 (x7_1 * 2)), (wrap64 (x8_1 - 1)), eqs, eqs, H', ⟨by have := HK1.out; omega⟩, drs⟩
     ·replace c10 := Bool.eq_false_iff.mpr c10
      subst c10
      have H1 : (if t223 = true then (spec_l1Mix.l0 k1 a0 a1 false (wrap64 ((wrap64 (x7_1 * 2)) + 1)) (wrap64 (x8_1 - 1))) else (spec_l1Mix.l0 k1 a0 a1 false (wrap64 (x7_1 * 2)) (wrap64 (x8_1 - 1)))) = some r := by rw [if_neg (show ¬ (false = true) by decide)] at H; exact H
      clear H
      have H := H1
      clear H1
      by_cases c11 : t223 = true
      ·subst c11
       have H1 : (spec_l1Mix.l0 k1 a0 a1 false (wrap64 ((wrap64 (x7_1 * 2)) + 1)) (wrap64 (x8_1 - 1))) = some r := by rw [if_pos rfl] at H; exact H
       clear H
       have H := H1
       clear H1
       have H' := Aside0.mk H
       clear H
       go_wp2_with (first | ((with_reducible refine gc 141 rfl ?_); refine gl 19 Try.func141 #[.int .i64 a0, .int .i64 x8_1] ?_; (with_reducible refine (spec_l1Has.calls k1 a0 x8_1 false _ A5.out).mono ?_); rintro e w' ⟨rfl, ⟨nd, rfl⟩⟩; refine ⟨_, rfl, ?_⟩) | ((with_reducible refine gc 141 rfl ?_); refine gl 22 Try.func141 #[.int .i64 a1, .int .i64 x8_1] ?_; (with_reducible refine (spec_l1Has.calls k1 a1 x8_1 true _ A6.out).mono ?_); rintro e w' ⟨rfl, ⟨nd, rfl⟩⟩; refine ⟨_, rfl, ?_⟩))
       go_roundg k1
       case measure => have := HK1.out; omega
       case rel => exact ⟨(wrap64 ((wrap64 (x7_1 * 2)) + 1)), (wrap64 (x8_1 - 1)), eqs, eqs, H', ⟨by have := HK1.out; omega⟩, drs⟩
      ·replace c11 := Bool.eq_false_iff.mpr c11
       subst c11
       have H1 : (spec_l1Mix.l0 k1 a0 a1 false (wrap64 (x7_1 * 2)) (wrap64 (x8_1 - 1))) = some r := by rw [if_neg (show ¬ (false = true) by decide)] at H; exact H
       clear H
       have H := H1
       clear H1
       have H' := Aside0.mk H
       clear H
       go_wp2_with (first | ((with_reducible refine gc 141 rfl ?_); refine gl 19 Try.func141 #[.int .i64 a0, .int .i64 x8_1] ?_; (with_reducible refine (spec_l1Has.calls k1 a0 x8_1 false _ A5.out).mono ?_); rintro e w' ⟨rfl, ⟨nd, rfl⟩⟩; refine ⟨_, rfl, ?_⟩) | ((with_reducible refine gc 141 rfl ?_); refine gl 22 Try.func141 #[.int .i64 a1, .int .i64 x8_1] ?_; (with_reducible refine (spec_l1Has.calls k1 a1 x8_1 false _ A6.out).mono ?_); rintro e w' ⟨rfl, ⟨nd, rfl⟩⟩; refine ⟨_, rfl, ?_⟩))
       go_roundg k1
       case measure => have := HK1.out; omega
       case rel => exact ⟨(wrap64 (x7_1 * 2)), (wrap64 (x8_1 - 1)), eqs, eqs, H', ⟨by have := HK1.out; omega⟩, drs⟩
   ·rw [if_neg c4] at H
    have c4b0 : decide (0 ≤ x8_1) = false := decide_eq_false c4
    clear c4
    obtain rfl := Option.some.inj H
    go_wp2
    go_ret
    exact ⟨eqs, drs⟩

/-! ### spec_l2Edge: function 122 -/
mutual
def spec_l2Edge.j0 : Nat → Bool → List Int → Int → List (S36) → List (S56) → Int → Int → Int → Int → Option (Int × Int × Int × Int × Int × Int)
 | 0, _, _, _, _, _, _, _, _, _ => none
 | k + 1, x20, x1000, x1001, x225000, x225001, x230000, x230001, x234000, x234001 => if x20 = true then ((spec_l9Rd_pick.f k x1000 x1001 (x225000.length : Int)).bind fun bt236 => (if 0 ≤ bt236.1 then (if bt236.1 < (x225000.length : Int) then ((spec_l9Rd_pick.f k x1000 bt236.2 (x225000.length : Int)).bind fun bt239 => (if 0 ≤ bt239.1 then (if bt239.1 < (x225000.length : Int) then (spec_l2Edge.j1 k x1000 bt239.2 ((rd_T36 x225000 bt236.1).f0) ((rd_T36 x225000 bt236.1).f1) ((rd_T36 x225000 bt239.1).f0) ((rd_T36 x225000 bt239.1).f1)) else (none)) else (none))) else (none)) else (none))) else (spec_l2Edge.j1 k x1000 x1001 x230000 x230001 x234000 x234001)
def spec_l2Edge.j1 : Nat → List Int → Int → Int → Int → Int → Int → Option (Int × Int × Int × Int × Int × Int)
 | 0, _, _, _, _, _, _ => none
 | k + 1, x1000, x1001, x230000, x230001, x234000, x234001 => (spec_l1Mix.f k x230000 x234000 false).bind fun t242 => ((spec_l9Rd_num.f k x1000 x1001 (([0, 0, 0, 1, 2, 4] : List Int))).bind fun bt246 => ((spec_l1Mix.f k t242 bt246.1 false).bind fun t248 => ((spec_l2Code.f x230000 x230001).bind fun t249 => ((spec_l2Code.f x234000 x234001).bind fun t250 => (if t249 > t250 then (some (t248, x234000, x234001, x230000, x230001, bt246.2)) else (some (t248, x230000, x230001, x234000, x234001, bt246.2)))))))
end
def spec_l2Edge.f (k : Nat) (s0_0 : List Int) (s0_1 : Int) (l1_0 : List (S36)) (l1_1 : List (S56)) : Option (Int × Int × Int × Int × Int × Int) := (spec_l2Node.f k s0_0 s0_1).bind fun bt226 => ((spec_l2Node.f k s0_0 bt226.2.2).bind fun bt230 => (if (l1_0.length : Int) > 1 then ((spec_l9Rd_pick.f k s0_0 bt230.2.2 8).bind fun bt234 => (spec_l2Edge.j0 k (decide (bt234.1 > 0)) s0_0 bt234.2 l1_0 l1_1 bt226.1 bt226.2.1 bt230.1 bt230.2.1)) else (spec_l2Edge.j0 k false s0_0 bt230.2.2 l1_0 l1_1 bt226.1 bt226.2.1 bt230.1 bt230.2.1)))
def spec_l2Edge.T4 : Bool × List (List Nat × List Nat) := (true, [([], []), ([0], [0]), ([], []), ([], []), ([3], [3]), ([4], [4]), ([2, 5], [2, 5]), ([1, 6], [1, 6]), ([7], [7]), ([8, 6, 0, 1, 2, 3, 4, 5, 6, 7, 8], [8])])
def spec_l2Edge.B4 : List Nat := [0, 1, 0, 0, 8, 24, 60, 127, 255, 511]
theorem spec_l2Edge.tab4 : rtab .any (opsOf Try.f122 4) = spec_l2Edge.T4 := by kernel_rfl
theorem spec_l2Edge.bits4 : waitsOk spec_l2Edge.T4.2 spec_l2Edge.B4 = true := by kernel_rfl
def spec_l2Edge.T5 : Bool × List (List Nat × List Nat) := (true, [([], []), ([0], [0]), ([], []), ([], []), ([3], [3]), ([4], [4]), ([2, 5], [2, 5]), ([1, 6], [1, 6]), ([7], [7]), ([8, 6, 0, 1, 2, 3, 4, 5, 6, 7, 8], [8])])
def spec_l2Edge.B5 : List Nat := [0, 1, 0, 0, 8, 24, 60, 127, 255, 511]
theorem spec_l2Edge.tab5 : rtab .any (opsOf Try.f122 5) = spec_l2Edge.T5 := by kernel_rfl
theorem spec_l2Edge.bits5 : waitsOk spec_l2Edge.T5.2 spec_l2Edge.B5 = true := by kernel_rfl
theorem spec_l2Edge.calls (k : Nat) (g : Nat) (s0_0 : List Int) (s0_1 : Int) (A1_0 : Option Addr) (c1_0 : Nat) (l1_0 : List (S36)) (A1_1 : Option Addr) (c1_1 : Nat) (l1_1 : List (S56)) (r1 : Int) (r2 : Int) (r3 : Int) (r4 : Int) (r5 : Int) (r6 : Int) (w0 w : World) (hI : IsS126 w0 w g s0_0 s0_1) (hB : Below w0.heap.size w0 w) (hr1_0 : ∀ W_, KeepBut w W_ g none → Kd.C k36 W_ A1_0 l1_0.length l1_0) (hc1_0 : l1_0.length ≤ c1_0) (hr1_1 : ∀ W_, KeepBut w W_ g none → Kd.C k56 W_ A1_1 l1_1.length l1_1) (hc1_1 : l1_1.length ≤ c1_1) (h : spec_l2Edge.f k s0_0 s0_1 l1_0 l1_1 = some (r1, r2, r3, r4, r5, r6)) :
  Calls Try.prog 122 #[.pointer (some ⟨g, 0, none⟩), .agg #[.slice A1_0 l1_0.length c1_0, .slice A1_1 l1_1.length c1_1]] w fun e w' => e = .returned (.agg #[.int .i64 r1, .int .i64 r2, .int .i64 r3, .int .i64 r4, .int .i64 r5]) ∧ IsS126 w0 w' g s0_0 r6 ∧ Below w0.heap.size w0 w' ∧ KeepBut w w' g none := by
 have hu34 := Try.underlying34
 have hu56 := Try.underlying56
 have hu36 := Try.underlying36
 have HR1_0 := Aside0.mk hr1_0
 have HC1_0 := Aside0.mk hc1_0
 clear hr1_0 hc1_0
 have HR1_1 := Aside0.mk hr1_1
 have HC1_1 := Aside0.mk hc1_1
 clear hr1_1 hc1_1
 have HI0 := Aside0.mk hI
 have GEg_ : Ge w0 g := ⟨IsS126.ge HI0.out⟩
 have HK := Aside0.mk (KeepBut.refl w g none)
 have HL := Aside0.mk hB.size
 clear hI
 have HW0 := Aside0.mk hB.size
 have HB := Aside0.mk hB
 clear hB
 have H := h; unfold spec_l2Edge.f at H
 clear h
 replace H := Option.bind_eq_some_iff.mp H
 obtain ⟨⟨t226, t227, t228⟩, A30, H⟩ := H
 try dsimp -simprocs only at H
 have A3 := Aside0.mk A30
 clear A30
 replace H := Option.bind_eq_some_iff.mp H
 obtain ⟨⟨t230, t231, t232⟩, A40, H⟩ := H
 try dsimp -simprocs only at H
 have A4 := Aside0.mk A40
 clear A40
 have HC5 := Aside0.mk H
 clear H
 go_enter Try.func122, Try.ntmps122
 go_upto_region 3 with (first | ((with_reducible refine gd 3 rfl ?_); refine bx 3 (cs := #[.slice A1_0 l1_0.length c1_0, .slice A1_1 l1_1.length c1_1]) (t := 34) ?_; intro gb224 hg w6 hbox hb; replace HB := hs HB hb; have BK224 := Aside0.mk (hbox); have GW224 := gwk HK hg; have GE224 := gew HW0 GW224; replace HK := kb HK hb; have NB0_224 := nlt HI0 hg; have NB224_0 := nsy NB0_224; replace HI0 := ib HI0 hb; clear hb hbox hg) | ((with_reducible refine gd 4 rfl ?_); refine bx 4 (cs := #[.int .i64 0, .int .i64 0, .int .i64 0, .int .i64 0, .int .i64 0]) (t := 56) ?_; intro gb225 hg w7 hbox hb; replace HB := hs HB hb; have BK225 := Aside0.mk (hbox); have GW225 := gwk HK hg; have GE225 := gew HW0 GW225; replace HK := kb HK hb; have NB224_225 := nq BK224 hg; have NB225_224 := nq' BK224 hg; replace BK224 := bb BK224 hb rfl; have NB0_225 := nlt HI0 hg; have NB225_0 := nsy NB0_225; replace HI0 := ib HI0 hb; clear hb hbox hg) | ((with_reducible refine gc 121 rfl ?_); refine gl 9 Try.func121 #[.pointer (some ⟨g, 0, none⟩)] ?_; (with_reducible refine (spec_l2Node.calls k g s0_0 s0_1 t226 t227 t228 w0 _ ?side1 ?side2 A3.out).mono ?_); (case side1 => exact iis HI0.out); (case side2 => exact bs HB.out); rintro e w8 ⟨rfl, hi, hb, hk⟩; refine ⟨_, rfl, ?_⟩; replace BK224 := kk BK224 hk; replace BK225 := kk BK225 hk; replace HK := kt HK hk; replace HB := Aside0.mk (hb); replace HI0 := Aside0.mk (hi); (try clear hi hb hk)) | ((with_reducible refine gd 5 rfl ?_); refine bx 5 (cs := #[.int .i64 0, .int .i64 0]) (t := 36) ?_; intro gb229 hg w9 hbox hb; replace HB := hs HB hb; have BK229 := Aside0.mk (hbox); have GW229 := gwk HK hg; have GE229 := gew HW0 GW229; replace HK := kb HK hb; have NB224_229 := nq BK224 hg; have NB229_224 := nq' BK224 hg; replace BK224 := bb BK224 hb rfl; have NB225_229 := nq BK225 hg; have NB229_225 := nq' BK225 hg; replace BK225 := bb BK225 hb rfl; have NB0_229 := nlt HI0 hg; have NB229_0 := nsy NB0_229; replace HI0 := ib HI0 hb; clear hb hbox hg; have hnb10 := NB229_224.out; have hnc10 := NB224_229.out; have hnb11 := NB229_225.out; have hnc11 := NB225_229.out; have hnb12 := NB229_0.out; have hnc12 := NB0_229.out; obtain ⟨hcz13_0, hcz13_1⟩ := bc2 (w := w9) BK229.out; have hfz13 := blk_frozen BK229.out) | ((with_reducible refine gc 121 rfl ?_); refine gl 11 Try.func121 #[.pointer (some ⟨g, 0, none⟩)] ?_; (with_reducible refine (spec_l2Node.calls k g s0_0 t228 t230 t231 t232 w0 _ ?side1 ?side2 A4.out).mono ?_); (case side1 => exact iis HI0.out); (case side2 => exact bs HB.out); rintro e w14 ⟨rfl, hi, hb, hk⟩; refine ⟨_, rfl, ?_⟩; replace BK224 := kk BK224 hk; replace BK225 := kk BK225 hk; replace BK229 := kp #[.int .i64 t226, .int .i64 t227] BK229 hk; replace HK := kt HK hk; replace HB := Aside0.mk (hb); replace HI0 := Aside0.mk (hi); (try clear hi hb hk)) | ((with_reducible refine gd 6 rfl ?_); refine bx 6 (cs := #[.int .i64 0, .int .i64 0]) (t := 36) ?_; intro gb233 hg w15 hbox hb; replace HB := hs HB hb; have BK233 := Aside0.mk (hbox); have GW233 := gwk HK hg; have GE233 := gew HW0 GW233; replace HK := kb HK hb; have NB224_233 := nq BK224 hg; have NB233_224 := nq' BK224 hg; replace BK224 := bb BK224 hb rfl; have NB225_233 := nq BK225 hg; have NB233_225 := nq' BK225 hg; replace BK225 := bb BK225 hb rfl; have NB229_233 := nq BK229 hg; have NB233_229 := nq' BK229 hg; replace BK229 := bb BK229 hb rfl; have NB0_233 := nlt HI0 hg; have NB233_0 := nsy NB0_233; replace HI0 := ib HI0 hb; clear hb hbox hg; have hnb16 := NB233_224.out; have hnc16 := NB224_233.out; have hnb17 := NB233_225.out; have hnc17 := NB225_233.out; have hnb18 := NB233_229.out; have hnc18 := NB229_233.out; have hnb19 := NB233_0.out; have hnc19 := NB0_233.out; obtain ⟨hcz20_0, hcz20_1⟩ := bc2 (w := w15) BK233.out; have hfz20 := blk_frozen BK233.out))
 (try simp only [Act.put, List.setIfInBounds_toArray, List.set_cons_zero, List.set_cons_succ])
 go_cut [20] (fun v20 wc => ∃ (kq : Nat) (x20_4 : Bool) (x1001_4 : Int), v20 = .bool x20_4 ∧ Aside0 (spec_l2Edge.j0 kq x20_4 s0_0 x1001_4 l1_0 l1_1 t226 t227 t230 t231 = some (r1, r2, r3, r4, r5, r6)) ∧ Aside0 (kq ≤ k) ∧ Aside0 (wc.heap[gb224]? = some (.cells #[(.slice A1_0 l1_0.length c1_0), (.slice A1_1 l1_1.length c1_1)] 34 (0, 0))) ∧ Aside0 (wc.heap[gb225]? = some (.cells #[.int .i64 0, .int .i64 0, .int .i64 0, .int .i64 0, .int .i64 0] 56 (0, 0))) ∧ Aside0 (wc.heap[gb229]? = some (.cells #[.int .i64 t226, .int .i64 t227] 36 (0, 0))) ∧ Aside0 (wc.heap[gb233]? = some (.cells #[.int .i64 t230, .int .i64 t231] 36 (0, 0))) ∧ Aside0 (IsS126 w0 wc g s0_0 x1001_4) ∧ Aside0 (KeepBut w wc g none) ∧ Aside0 (Below w0.heap.size w0 wc))
 case first =>
  have H := HC5.out
  clear HC5
  by_cases c21 : (l1_0.length : Int) > 1
  ·rw [if_pos c21] at H
   have c21b0 : decide (1 < (l1_0.length : Int)) = true := decide_eq_true c21
   have c21b1 : decide (1 < l1_0.length) = true := decide_eq_true (by omega)
   clear c21
   (first | rw [c21b0] | (simp only [i64_w, i32_w]; rw [c21b0]) | skip)
   replace H := Option.bind_eq_some_iff.mp H
   obtain ⟨⟨t234, t235⟩, A220, H⟩ := H
   try dsimp -simprocs only at H
   have A22 := Aside0.mk A220
   clear A220
   have H' := Aside0.mk H
   clear H
   have hnb23 := NB224_225.out
   have hnc23 := NB225_224.out
   have hnb24 := NB224_229.out
   have hnc24 := NB229_224.out
   have hnb25 := NB224_233.out
   have hnc25 := NB233_224.out
   have hnb26 := NB224_0.out
   have hnc26 := NB0_224.out
   obtain ⟨hcz27_0, hcz27_1⟩ := bc2 (w := w15) BK224.out
   have hfz27 := blk_frozen BK224.out
   go_wp2_with (first | (go_at_call 120; (with_reducible refine (spec_l9Rd_pick.calls k g s0_0 t232 8 t234 t235 w0 _ ?side1 ?side2 A22.out).mono ?_); (case side1 => exact iis HI0.out); (case side2 => exact bs HB.out); rintro e w28 ⟨rfl, hi, hb, hk⟩; replace BK224 := kk BK224 hk; replace BK225 := kk BK225 hk; replace BK229 := kk BK229 hk; replace BK233 := kp #[.int .i64 t230, .int .i64 t231] BK233 hk; replace HK := kt HK hk; replace HB := Aside0.mk (hb); replace HI0 := Aside0.mk (hi); (try clear hi hb hk)))
   go_meet
   case rel => exact ⟨_, (decide (t234 > 0)), (t235), eqs, H', ⟨by first | omega | exact Nat.le_refl _⟩, ⟨bf BK224.out⟩, ⟨bf BK225.out⟩, ⟨bf BK229.out⟩, ⟨bf BK233.out⟩, ⟨iis HI0.out⟩, ⟨ks HK.out⟩, ⟨bs HB.out⟩⟩
  ·rw [if_neg c21] at H
   have c21b0 : decide (1 < (l1_0.length : Int)) = false := decide_eq_false c21
   have c21b1 : decide (1 < l1_0.length) = false := decide_eq_false (by omega)
   clear c21
   (first | rw [c21b0] | (simp only [i64_w, i32_w]; rw [c21b0]) | skip)
   have H' := Aside0.mk H
   clear H
   have hnb29 := NB224_225.out
   have hnc29 := NB225_224.out
   have hnb30 := NB224_229.out
   have hnc30 := NB229_224.out
   have hnb31 := NB224_233.out
   have hnc31 := NB233_224.out
   have hnb32 := NB224_0.out
   have hnc32 := NB0_224.out
   obtain ⟨hcz33_0, hcz33_1⟩ := bc2 (w := w15) BK224.out
   have hfz33 := blk_frozen BK224.out
   go_wp2
   go_meet
   case rel => exact ⟨_, (false), (t232), eqs, H', ⟨by first | omega | exact Nat.le_refl _⟩, ⟨bf BK224.out⟩, ⟨bf BK225.out⟩, ⟨bf BK229.out⟩, ⟨by (with_reducible repeat (first | refine blk_drewN ?_ _ | refine blk_drew ?_ | refine blk_alloc ?_ _)); refine blk_put (cs := #[.int .i64 t230, .int .i64 0]) ?_ 1 _ rfl; (with_reducible repeat (first | refine blk_drewN ?_ _ | refine blk_drew ?_ | refine blk_alloc ?_ _)); refine blk_put (cs := #[.int .i64 0, .int .i64 0]) ?_ 0 _ rfl; exact bf BK233.out⟩, ⟨iis HI0.out⟩, ⟨ks HK.out⟩, ⟨bs HB.out⟩⟩
 case rest =>
  clear HC5
  try clear c1
  try clear c2
  try clear p2
  try clear c3
  try clear c10
  try clear c11
  try clear c12
  try clear c16
  try clear c17
  try clear c18
  try clear c19
  try clear c21
  try clear c21b0
  try clear c21b1
  try clear c23
  try clear c24
  try clear c25
  try clear c26
  try clear c29
  try clear c30
  try clear c31
  try clear c32
  try clear hcz13_0 hcz13_1
  try clear hcz20_0 hcz20_1
  try clear hcz27_0 hcz27_1
  try clear hcz33_0 hcz33_1
  try clear hfz13
  try clear hfz20
  try clear hfz27
  try clear hfz33
  obtain ⟨kq, x20_4, x1001_4, rfl, HA, HJ4, BK224, BK225, BK229, BK233, HI0, HK, HB⟩ := hcut
  cases kq with
  | zero => exact absurd HA.out (by simp [spec_l2Edge.j0])
  | succ kj4 =>
   have H := HA.out
   clear HA
   simp only [spec_l2Edge.j0] at H
   have HC34 := Aside0.mk H
   clear H
   go_upto_if 20 with (fail)
   go_cut [] (fun wc => ∃ (kq : Nat) (x1001_33 : Int) (x230000_33 : Int) (x230001_33 : Int) (x234000_33 : Int) (x234001_33 : Int), Aside0 (spec_l2Edge.j1 kq s0_0 x1001_33 x230000_33 x230001_33 x234000_33 x234001_33 = some (r1, r2, r3, r4, r5, r6)) ∧ Aside0 (kq ≤ kj4) ∧ Aside0 (wc.heap[gb224]? = some (.cells #[(.slice A1_0 l1_0.length c1_0), (.slice A1_1 l1_1.length c1_1)] 34 (0, 0))) ∧ Aside0 (wc.heap[gb225]? = some (.cells #[.int .i64 0, .int .i64 0, .int .i64 0, .int .i64 0, .int .i64 0] 56 (0, 0))) ∧ Aside0 (wc.heap[gb229]? = some (.cells #[.int .i64 x230000_33, .int .i64 x230001_33] 36 (0, 0))) ∧ Aside0 (wc.heap[gb233]? = some (.cells #[.int .i64 x234000_33, .int .i64 x234001_33] 36 (0, 0))) ∧ Aside0 (IsS126 w0 wc g s0_0 x1001_33) ∧ Aside0 (KeepBut w wc g none) ∧ Aside0 (Below w0.heap.size w0 wc))
   case first =>
    have H := HC34.out
    clear HC34
    by_cases c35 : x20_4 = true
    ·subst c35
     have H1 : ((spec_l9Rd_pick.f kj4 s0_0 x1001_4 (l1_0.length : Int)).bind fun bt236 => (if 0 ≤ bt236.1 then (if bt236.1 < (l1_0.length : Int) then ((spec_l9Rd_pick.f kj4 s0_0 bt236.2 (l1_0.length : Int)).bind fun bt239 => (if 0 ≤ bt239.1 then (if bt239.1 < (l1_0.length : Int) then (spec_l2Edge.j1 kj4 s0_0 bt239.2 ((rd_T36 l1_0 bt236.1).f0) ((rd_T36 l1_0 bt236.1).f1) ((rd_T36 l1_0 bt239.1).f0) ((rd_T36 l1_0 bt239.1).f1)) else (none)) else (none))) else (none)) else (none))) = some (r1, r2, r3, r4, r5, r6) := by rw [if_pos rfl] at H; exact H
     clear H
     have H := H1
     clear H1
     replace H := Option.bind_eq_some_iff.mp H
     obtain ⟨⟨t236, t237⟩, A360, H⟩ := H
     try dsimp -simprocs only at H
     have A36 := Aside0.mk A360
     clear A360
     by_cases c37 : 0 ≤ t236
     ·rw [if_pos c37] at H
      have c37b0 : decide (0 ≤ t236) = true := decide_eq_true c37
      clear c37
      (first | rw [c37b0] | (simp only [i64_w, i32_w]; rw [c37b0]) | skip)
      by_cases c38 : t236 < (l1_0.length : Int)
      ·rw [if_pos c38] at H
       have c38b0 : decide (t236 < (l1_0.length : Int)) = true := decide_eq_true c38
       clear c38
       replace H := Option.bind_eq_some_iff.mp H
       obtain ⟨⟨t239, t240⟩, A390, H⟩ := H
       try dsimp -simprocs only at H
       have A39 := Aside0.mk A390
       clear A390
       by_cases c40 : 0 ≤ t239
       ·rw [if_pos c40] at H
        have c40b0 : decide (0 ≤ t239) = true := decide_eq_true c40
        clear c40
        by_cases c41 : t239 < (l1_0.length : Int)
        ·rw [if_pos c41] at H
         have c41b0 : decide (t239 < (l1_0.length : Int)) = true := decide_eq_true c41
         clear c41
         have H' := Aside0.mk H
         clear H
         try go_wp2
         replace BK224 := bd BK224
         replace BK225 := bd BK225
         replace BK229 := bd BK229
         replace BK233 := bd BK233
         replace HI0 := Aside0.mk (IsS126.drew HI0.out)
         replace HK := Aside0.mk (keep_drew HK.out)
         replace HB := hd HB
         have p238 : 0 ≤ (t236 : Int) := oda
         have q238 : t236 < (l1_0.length : Int) := oda
         obtain ⟨ad238, e238, hx238_0, hx238_1⟩ := at_T36 (Kd.C_foot_now HR1_0.out HK.out) t236 p238 q238
         have hw238_1 := hx238_1
         have hw238_0 := hx238_0
         cases e238
         have hne238_1 := (show (⟨(ad238.add ((t236).toNat * 2)).block, (ad238.add ((t236).toNat * 2)).off + 1, none⟩ : Addr).block ≠ g from by first | (rw [add_block]; exact Kd.foot_ne HR1_0.out (by omega) (by decide)) | (show (Addr.add _ _).block ≠ _; rw [add_block]; exact Kd.foot_ne HR1_0.out (by omega) (by decide)) | exact Kd.foot_ne HR1_0.out (by omega) (by decide) | (dsimp only; exact Kd.foot_ne HR1_0.out (by omega) (by decide)))
         have hlt238_1 := (Kd.foot_lt HR1_0.out (by omega) (by decide))
         have hne238_0 := (show ((ad238.add ((t236).toNat * 2)) : Addr).block ≠ g from by first | (rw [add_block]; exact Kd.foot_ne HR1_0.out (by omega) (by decide)) | (show (Addr.add _ _).block ≠ _; rw [add_block]; exact Kd.foot_ne HR1_0.out (by omega) (by decide)) | exact Kd.foot_ne HR1_0.out (by omega) (by decide) | (dsimp only; exact Kd.foot_ne HR1_0.out (by omega) (by decide)))
         have hlt238_0 := (Kd.foot_lt HR1_0.out (by omega) (by decide))
         replace p238 := eq_true p238
         replace q238 := eq_true q238
         refine start_ (n := 10) (S := fun w' => w'.cell? ⟨gb224, 0, none⟩ = some (.slice (some ad238) l1_0.length c1_0) ∧ w'.cell? ⟨gb224, 1, none⟩ = some (.slice A1_1 l1_1.length c1_1) ∧ w'.cell? (ad238.add ((t236).toNat * 2)) = some (.int .i64 ((rd_T36 l1_0 t236).f0)) ∧ w'.cell? ⟨(ad238.add ((t236).toNat * 2)).block, (ad238.add ((t236).toNat * 2)).off + 1, none⟩ = some (.int .i64 ((rd_T36 l1_0 t236).f1))) (ds := []) #[false, false, false, false, false, false, false, false, false, false] (by kernel_rfl) rfl rfl ⟨(blk_cell BK224.out 0).trans rfl, (blk_cell BK224.out 1).trans rfl, hx238_0, hx238_1⟩ (fun hHeld => ?_); refine with_tabW spec_l2Edge.tab4 spec_l2Edge.bits4 (fun HT_ HW_ => ?_)
         generalize wc.drew = w42 at BK224 BK225 BK229 BK233 HI0 HK HB hx238_0 hx238_1 hHeld ⊢
         refine pu 0 21 ?_
         refine pu 2 23 ?_
         refine pu 3 24 ?_
         refine tk 1 22 ?_
         refine tk 4 25 ?_
         refine pu 5 26 ?_
         refine one_ (i := 6) (N := some 27) #[true, true, true, true, true, true, true, false, false, false] rfl rfl (one_of HT_.out (by kernel_rfl)) (by decide) (fun K hK => ?_)
         refine gs Try.func120 #[.pointer (some ⟨g, 0, none⟩), .int .i64 (l1_0.length : Int)] ?_
         with_reducible refine (spec_l9Rd_pick.calls kj4 g s0_0 x1001_4 (l1_0.length : Int) t236 t237 w0 _ ?side1 ?side2 A36.out).mono ?_
         (case side1 => exact iis HI0.out)
         (case side2 => exact bs HB.out)
         rintro e w43 ⟨rfl, hi, hb, hk⟩
         have HS2_ := keep_cell hk (hHeld.2.2.1) (by first | (rw [add_block]; exact hne238_0) | (show (Addr.add _ _).block ≠ _; rw [add_block]; exact hne238_0) | exact hne238_0)
         have HS3_ := keep_cell hk (hHeld.2.2.2) (by first | (rw [add_block]; exact hne238_1) | (show (Addr.add _ _).block ≠ _; rw [add_block]; exact hne238_1) | exact hne238_1)
         refine ⟨_, rfl, ?_⟩
         replace BK224 := kk BK224 hk
         replace BK225 := kk BK225 hk
         replace BK229 := kk BK229 hk
         replace BK233 := kk BK233 hk
         replace HK := kt HK hk
         replace HB := Aside0.mk (hb)
         replace HI0 := Aside0.mk (hi)
         (try clear hb)
         (try clear hb2)
         (try clear hk)
         (try clear hi)
         refine hK.out _ _ ⟨(blk_cell BK224.out 0).trans rfl, (blk_cell BK224.out 1).trans rfl, HS2_, HS3_⟩ (fun hHeld => ?_)
         clear hK K
         refine nrm 27 ?_
         refine pu 7 28 ?_
         refine tk 8 29 ?_
         refine one_ (i := 9) (N := none) #[true, true, true, true, true, true, true, true, true, true] rfl rfl (one_of HT_.out (by kernel_rfl)) (by decide) (fun K hK => ?_)
         have hs44 : w43.cell? ⟨gb229, 0, none⟩ = some (.int .i64 t226) := (blk_cell BK229.out 0).trans rfl
         have hfs44 := blk_frozen BK229.out 0
         have hns44_0 := NB224_229.out
         have hns44_1 := NB225_229.out
         have hns44_3 := NB233_229.out
         have hms44_0 := NB229_224.out
         have hms44_1 := NB229_225.out
         have hms44_3 := NB229_233.out
         have hs45 : w43.cell? ⟨gb229, 1, none⟩ = some (.int .i64 t227) := (blk_cell BK229.out 1).trans rfl
         have hfs45 := blk_frozen BK229.out 1
         have hns45_0 := NB224_229.out
         have hns45_1 := NB225_229.out
         have hns45_3 := NB233_229.out
         have hms45_0 := NB229_224.out
         have hms45_1 := NB229_225.out
         have hms45_3 := NB229_233.out
         refine skip_ (w1 := ?_) (by rfl) rfl ?_ ?_
         rotate_left
         ·go_simp
          rfl
         refine hK.out _ _ ⟨((cell_far (p := ⟨gb229, _, none⟩) NB224_229.out _).trans (((cell_far (p := ⟨gb229, _, none⟩) NB224_229.out _).trans (hHeld.1)))), ((cell_far (p := ⟨gb229, _, none⟩) NB224_229.out _).trans (((cell_far (p := ⟨gb229, _, none⟩) NB224_229.out _).trans (hHeld.2.1)))), ((cell_far (p := ⟨gb229, _, none⟩) (nl2 hlt238_0 GW229) _).trans (((cell_far (p := ⟨gb229, _, none⟩) (nl2 hlt238_0 GW229) _).trans (hHeld.2.2.1)))), ((cell_far (p := ⟨gb229, _, none⟩) (nl2 hlt238_1 GW229) _).trans (((cell_far (p := ⟨gb229, _, none⟩) (nl2 hlt238_1 GW229) _).trans (hHeld.2.2.2))))⟩ (fun hHeld => ?_)
         clear hK K
         refine done_ (done_of HT_.out (by kernel_rfl)) ?_
         try go_wp2
         have n0_ : Aside0 (((w43.setCell ⟨gb229, 0, none⟩ (.int .i64 ((rd_T36 l1_0 t236).f0))).setCell ⟨gb229, 1, none⟩ (.int .i64 ((rd_T36 l1_0 t236).f1))).heap[gb224]? = some (.cells #[.slice (some ad238) l1_0.length c1_0, .slice A1_1 l1_1.length c1_1] 34 (0, 0))) := ⟨bf BK224.out⟩
         have n1_ : Aside0 (((w43.setCell ⟨gb229, 0, none⟩ (.int .i64 ((rd_T36 l1_0 t236).f0))).setCell ⟨gb229, 1, none⟩ (.int .i64 ((rd_T36 l1_0 t236).f1))).heap[gb225]? = some (.cells #[.int .i64 0, .int .i64 0, .int .i64 0, .int .i64 0, .int .i64 0] 56 (0, 0))) := ⟨bf BK225.out⟩
         have n2_ : Aside0 (((w43.setCell ⟨gb229, 0, none⟩ (.int .i64 ((rd_T36 l1_0 t236).f0))).setCell ⟨gb229, 1, none⟩ (.int .i64 ((rd_T36 l1_0 t236).f1))).heap[gb229]? = some (.cells #[.int .i64 ((rd_T36 l1_0 t236).f0), .int .i64 ((rd_T36 l1_0 t236).f1)] 36 (0, 0))) := ⟨by (with_reducible repeat (first | refine blk_drewN ?_ _ | refine blk_drew ?_ | refine blk_alloc ?_ _)); refine blk_put (cs := #[.int .i64 ((rd_T36 l1_0 t236).f0), .int .i64 t227]) ?_ 1 _ rfl; (with_reducible repeat (first | refine blk_drewN ?_ _ | refine blk_drew ?_ | refine blk_alloc ?_ _)); refine blk_put (cs := #[.int .i64 t226, .int .i64 t227]) ?_ 0 _ rfl; exact bf BK229.out⟩
         have n3_ : Aside0 (((w43.setCell ⟨gb229, 0, none⟩ (.int .i64 ((rd_T36 l1_0 t236).f0))).setCell ⟨gb229, 1, none⟩ (.int .i64 ((rd_T36 l1_0 t236).f1))).heap[gb233]? = some (.cells #[.int .i64 t230, .int .i64 t231] 36 (0, 0))) := ⟨bf BK233.out⟩
         have n4_ : Aside0 (IsS126 w0 ((w43.setCell ⟨gb229, 0, none⟩ (.int .i64 ((rd_T36 l1_0 t236).f0))).setCell ⟨gb229, 1, none⟩ (.int .i64 ((rd_T36 l1_0 t236).f1))) g s0_0 t237) := ⟨iis HI0.out⟩
         have n5_ : Aside0 (KeepBut w ((w43.setCell ⟨gb229, 0, none⟩ (.int .i64 ((rd_T36 l1_0 t236).f0))).setCell ⟨gb229, 1, none⟩ (.int .i64 ((rd_T36 l1_0 t236).f1))) g none) := ⟨ks HK.out⟩
         have n6_ : Aside0 (Below w0.heap.size w0 ((w43.setCell ⟨gb229, 0, none⟩ (.int .i64 ((rd_T36 l1_0 t236).f0))).setCell ⟨gb229, 1, none⟩ (.int .i64 ((rd_T36 l1_0 t236).f1)))) := ⟨bs HB.out⟩
         (try clear BK224)
         (try clear BK225)
         (try clear BK229)
         (try clear BK233)
         (try clear HI0)
         (try clear HK)
         (try clear HB)
         generalize ((w43.setCell ⟨gb229, 0, none⟩ (.int .i64 ((rd_T36 l1_0 t236).f0))).setCell ⟨gb229, 1, none⟩ (.int .i64 ((rd_T36 l1_0 t236).f1))) = w46 at n0_ n1_ n2_ n3_ n4_ n5_ n6_ ⊢
         have BK224 := n0_
         have BK225 := n1_
         have BK229 := n2_
         have BK233 := n3_
         have HI0 := n4_
         have HK := n5_
         have HB := n6_
         clear n0_ n1_ n2_ n3_ n4_ n5_ n6_
         replace BK224 := bd BK224
         replace BK225 := bd BK225
         replace BK229 := bd BK229
         replace BK233 := bd BK233
         replace HI0 := Aside0.mk (IsS126.drew HI0.out)
         replace HK := Aside0.mk (keep_drew HK.out)
         replace HB := hd HB
         have p241 : 0 ≤ (t239 : Int) := oda
         have q241 : t239 < (l1_0.length : Int) := oda
         obtain ⟨ad241, e241, hx241_0, hx241_1⟩ := at_T36 (Kd.C_foot_now HR1_0.out HK.out) t239 p241 q241
         have hw241_1 := hx241_1
         have hw241_0 := hx241_0
         obtain rfl : ad238 = ad241 := (by injection e241)
         have hne241_1 := (show (⟨(ad238.add ((t239).toNat * 2)).block, (ad238.add ((t239).toNat * 2)).off + 1, none⟩ : Addr).block ≠ g from by first | (rw [add_block]; exact Kd.foot_ne HR1_0.out (by omega) (by decide)) | (show (Addr.add _ _).block ≠ _; rw [add_block]; exact Kd.foot_ne HR1_0.out (by omega) (by decide)) | exact Kd.foot_ne HR1_0.out (by omega) (by decide) | (dsimp only; exact Kd.foot_ne HR1_0.out (by omega) (by decide)))
         have hlt241_1 := (Kd.foot_lt HR1_0.out (by omega) (by decide))
         have hne241_0 := (show ((ad238.add ((t239).toNat * 2)) : Addr).block ≠ g from by first | (rw [add_block]; exact Kd.foot_ne HR1_0.out (by omega) (by decide)) | (show (Addr.add _ _).block ≠ _; rw [add_block]; exact Kd.foot_ne HR1_0.out (by omega) (by decide)) | exact Kd.foot_ne HR1_0.out (by omega) (by decide) | (dsimp only; exact Kd.foot_ne HR1_0.out (by omega) (by decide)))
         have hlt241_0 := (Kd.foot_lt HR1_0.out (by omega) (by decide))
         replace p241 := eq_true p241
         replace q241 := eq_true q241
         refine start_ (n := 10) (S := fun w' => w'.cell? ⟨gb224, 0, none⟩ = some (.slice (some ad238) l1_0.length c1_0) ∧ w'.cell? ⟨gb224, 1, none⟩ = some (.slice A1_1 l1_1.length c1_1) ∧ w'.cell? (ad238.add ((t239).toNat * 2)) = some (.int .i64 ((rd_T36 l1_0 t239).f0)) ∧ w'.cell? ⟨(ad238.add ((t239).toNat * 2)).block, (ad238.add ((t239).toNat * 2)).off + 1, none⟩ = some (.int .i64 ((rd_T36 l1_0 t239).f1))) (ds := []) #[false, false, false, false, false, false, false, false, false, false] (by kernel_rfl) rfl rfl ⟨(blk_cell BK224.out 0).trans rfl, (blk_cell BK224.out 1).trans rfl, hx241_0, hx241_1⟩ (fun hHeld => ?_); refine with_tabW spec_l2Edge.tab5 spec_l2Edge.bits5 (fun HT_ HW_ => ?_)
         generalize w46.drew = w47 at BK224 BK225 BK229 BK233 HI0 HK HB hx241_0 hx241_1 hHeld ⊢
         refine pu 0 30 ?_
         refine pu 2 32 ?_
         refine pu 3 33 ?_
         refine tk 1 31 ?_
         refine tk 4 34 ?_
         refine pu 5 35 ?_
         refine one_ (i := 6) (N := some 36) #[true, true, true, true, true, true, true, false, false, false] rfl rfl (one_of HT_.out (by kernel_rfl)) (by decide) (fun K hK => ?_)
         refine gs Try.func120 #[.pointer (some ⟨g, 0, none⟩), .int .i64 (l1_0.length : Int)] ?_
         with_reducible refine (spec_l9Rd_pick.calls kj4 g s0_0 t237 (l1_0.length : Int) t239 t240 w0 _ ?side1 ?side2 A39.out).mono ?_
         (case side1 => exact iis HI0.out)
         (case side2 => exact bs HB.out)
         rintro e w48 ⟨rfl, hi, hb, hk⟩
         have HS2_ := keep_cell hk (hHeld.2.2.1) (by first | (rw [add_block]; exact hne241_0) | (show (Addr.add _ _).block ≠ _; rw [add_block]; exact hne241_0) | exact hne241_0)
         have HS3_ := keep_cell hk (hHeld.2.2.2) (by first | (rw [add_block]; exact hne241_1) | (show (Addr.add _ _).block ≠ _; rw [add_block]; exact hne241_1) | exact hne241_1)
         refine ⟨_, rfl, ?_⟩
         replace BK224 := kk BK224 hk
         replace BK225 := kk BK225 hk
         replace BK229 := kk BK229 hk
         replace BK233 := kk BK233 hk
         replace HK := kt HK hk
         replace HB := Aside0.mk (hb)
         replace HI0 := Aside0.mk (hi)
         (try clear hb)
         (try clear hb2)
         (try clear hk)
         (try clear hi)
         refine hK.out _ _ ⟨(blk_cell BK224.out 0).trans rfl, (blk_cell BK224.out 1).trans rfl, HS2_, HS3_⟩ (fun hHeld => ?_)
         clear hK K
         refine nrm 36 ?_
         refine pu 7 37 ?_
         refine tk 8 38 ?_
         refine one_ (i := 9) (N := none) #[true, true, true, true, true, true, true, true, true, true] rfl rfl (one_of HT_.out (by kernel_rfl)) (by decide) (fun K hK => ?_)
         have hs49 : w48.cell? ⟨gb233, 0, none⟩ = some (.int .i64 t230) := (blk_cell BK233.out 0).trans rfl
         have hfs49 := blk_frozen BK233.out 0
         have hns49_0 := NB224_233.out
         have hns49_1 := NB225_233.out
         have hns49_2 := NB229_233.out
         have hms49_0 := NB233_224.out
         have hms49_1 := NB233_225.out
         have hms49_2 := NB233_229.out
         have hs50 : w48.cell? ⟨gb233, 1, none⟩ = some (.int .i64 t231) := (blk_cell BK233.out 1).trans rfl
         have hfs50 := blk_frozen BK233.out 1
         have hns50_0 := NB224_233.out
         have hns50_1 := NB225_233.out
         have hns50_2 := NB229_233.out
         have hms50_0 := NB233_224.out
         have hms50_1 := NB233_225.out
         have hms50_2 := NB233_229.out
         refine skip_ (w1 := ?_) (by rfl) rfl ?_ ?_
         rotate_left
         ·go_simp
          rfl
         refine hK.out _ _ ⟨((cell_far (p := ⟨gb233, _, none⟩) NB224_233.out _).trans (((cell_far (p := ⟨gb233, _, none⟩) NB224_233.out _).trans (hHeld.1)))), ((cell_far (p := ⟨gb233, _, none⟩) NB224_233.out _).trans (((cell_far (p := ⟨gb233, _, none⟩) NB224_233.out _).trans (hHeld.2.1)))), ((cell_far (p := ⟨gb233, _, none⟩) (nl2 hlt241_0 GW233) _).trans (((cell_far (p := ⟨gb233, _, none⟩) (nl2 hlt241_0 GW233) _).trans (hHeld.2.2.1)))), ((cell_far (p := ⟨gb233, _, none⟩) (nl2 hlt241_1 GW233) _).trans (((cell_far (p := ⟨gb233, _, none⟩) (nl2 hlt241_1 GW233) _).trans (hHeld.2.2.2))))⟩ (fun hHeld => ?_)
         clear hK K
         refine done_ (done_of HT_.out (by kernel_rfl)) ?_
         try go_wp2
         go_meet
         case rel => exact ⟨_, (t240), ((rd_T36 l1_0 t236).f0), ((rd_T36 l1_0 t236).f1), ((rd_T36 l1_0 t239).f0), ((rd_T36 l1_0 t239).f1), H', ⟨by have := HJ4.out; first | omega | exact Nat.le_refl _⟩, ⟨bf BK224.out⟩, ⟨bf BK225.out⟩, ⟨bf BK229.out⟩, ⟨by (with_reducible repeat (first | refine blk_drewN ?_ _ | refine blk_drew ?_ | refine blk_alloc ?_ _)); refine blk_put (cs := #[.int .i64 ((rd_T36 l1_0 t239).f0), .int .i64 t231]) ?_ 1 _ rfl; (with_reducible repeat (first | refine blk_drewN ?_ _ | refine blk_drew ?_ | refine blk_alloc ?_ _)); refine blk_put (cs := #[.int .i64 t230, .int .i64 t231]) ?_ 0 _ rfl; exact bf BK233.out⟩, ⟨iis HI0.out⟩, ⟨ks HK.out⟩, ⟨bs HB.out⟩⟩
        ·rw [if_neg c41] at H
         exact absurd H (by simp)
       ·rw [if_neg c40] at H
        exact absurd H (by simp)
      ·rw [if_neg c38] at H
       exact absurd H (by simp)
     ·rw [if_neg c37] at H
      exact absurd H (by simp)
    ·replace c35 := Bool.eq_false_iff.mpr c35
     subst c35
     have H1 : (spec_l2Edge.j1 kj4 s0_0 x1001_4 t226 t227 t230 t231) = some (r1, r2, r3, r4, r5, r6) := by rw [if_neg (show ¬ (false = true) by decide)] at H; exact H
     clear H
     have H := H1
     clear H1
     have H' := Aside0.mk H
     clear H
     go_wp2
     go_meet
     case rel => exact ⟨_, (x1001_4), (t226), (t227), (t230), (t231), H', ⟨by have := HJ4.out; first | omega | exact Nat.le_refl _⟩, ⟨bf BK224.out⟩, ⟨bf BK225.out⟩, ⟨bf BK229.out⟩, ⟨bf BK233.out⟩, ⟨iis HI0.out⟩, ⟨ks HK.out⟩, ⟨bs HB.out⟩⟩
   case rest =>
    clear HC34
    try clear c1
    try clear c2
    try clear p2
    try clear q2
    try clear hx2
    try clear c3
    try clear c4
    try clear c10
    try clear c11
    try clear c12
    try clear c16
    try clear c17
    try clear c18
    try clear c19
    try clear c21
    try clear c21b0
    try clear c21b1
    try clear c23
    try clear p23
    try clear q23
    try clear hx23
    try clear c24
    try clear p24
    try clear q24
    try clear hx24
    try clear c25
    try clear c26
    try clear c29
    try clear c30
    try clear c31
    try clear c32
    try clear c35
    try clear c37
    try clear c37b0
    try clear c38
    try clear c38b0
    try clear c40
    try clear c40b0
    try clear c41
    try clear c41b0
    try clear hcz13_0 hcz13_1
    try clear hcz20_0 hcz20_1
    try clear hcz27_0 hcz27_1
    try clear hcz33_0 hcz33_1
    try clear hfz13
    try clear hfz20
    try clear hfz27
    try clear hfz33
    try clear hx238_0
    try clear hx238_1
    try clear hx241_0
    try clear hx241_1
    try clear p2
    try clear p238
    try clear p241
    try clear q238
    try clear q241
    obtain ⟨kq, x1001_33, x230000_33, x230001_33, x234000_33, x234001_33, HA, HJ33, BK224, BK225, BK229, BK233, HI0, HK, HB⟩ := hcut
    cases kq with
    | zero => exact absurd HA.out (by simp [spec_l2Edge.j1])
    | succ kj33 =>
     have H := HA.out
     clear HA
     simp only [spec_l2Edge.j1] at H
     replace H := Option.bind_eq_some_iff.mp H
     obtain ⟨t242, A510, H⟩ := H
     try dsimp -simprocs only at H
     have A51 := Aside0.mk A510
     clear A510
     obtain ⟨y243, hy243⟩ : ∃ y_ : List Int, y_ = (([0, 0, 0, 1, 2, 4] : List Int)) := ⟨_, rfl⟩
     replace H : ((spec_l9Rd_num.f kj33 s0_0 x1001_33 y243).bind fun bt246 => ((spec_l1Mix.f kj33 t242 bt246.1 false).bind fun t248 => ((spec_l2Code.f x230000_33 x230001_33).bind fun t249 => ((spec_l2Code.f x234000_33 x234001_33).bind fun t250 => (if t249 > t250 then (some (t248, x234000_33, x234001_33, x230000_33, x230001_33, bt246.2)) else (some (t248, x230000_33, x230001_33, x234000_33, x234001_33, bt246.2))))))) = some (r1, r2, r3, r4, r5, r6) := by first | (rw [hy243]; exact H) | exact H
     have Ny243 := Aside0.mk hy243
     clear hy243
     replace H := Option.bind_eq_some_iff.mp H
     obtain ⟨⟨t246, t247⟩, A520, H⟩ := H
     try dsimp -simprocs only at H
     have A52 := Aside0.mk A520
     clear A520
     replace H := Option.bind_eq_some_iff.mp H
     obtain ⟨t248, A530, H⟩ := H
     try dsimp -simprocs only at H
     have A53 := Aside0.mk A530
     clear A530
     replace H := Option.bind_eq_some_iff.mp H
     obtain ⟨t249, A540, H⟩ := H
     try dsimp -simprocs only at H
     have A54 := Aside0.mk A540
     clear A540
     replace H := Option.bind_eq_some_iff.mp H
     obtain ⟨t250, A550, H⟩ := H
     try dsimp -simprocs only at H
     have A55 := Aside0.mk A550
     clear A550
     by_cases c56 : t249 > t250
     ·rw [if_pos c56] at H
      have c56b0 : decide (t250 < t249) = true := decide_eq_true c56
      clear c56
      simp only [Option.some.injEq, Prod.mk.injEq] at H
      obtain ⟨rfl, rfl, rfl, rfl, rfl, rfl⟩ := H
      have hnb57 := NB229_224.out
      have hnc57 := NB224_229.out
      have hnb58 := NB229_225.out
      have hnc58 := NB225_229.out
      have hnb59 := NB229_233.out
      have hnc59 := NB233_229.out
      have hnb60 := NB229_0.out
      have hnc60 := NB0_229.out
      obtain ⟨hcz61_0, hcz61_1⟩ := bc2 (w := wc) BK229.out
      have hfz61 := blk_frozen BK229.out
      have hnb62 := NB233_224.out
      have hnc62 := NB224_233.out
      have hnb63 := NB233_225.out
      have hnc63 := NB225_233.out
      have hnb64 := NB233_0.out
      have hnc64 := NB0_233.out
      obtain ⟨hcz65_0, hcz65_1⟩ := bc2 (w := wc) BK233.out
      have hfz65 := blk_frozen BK233.out
      try go_wp2_with (first | ((with_reducible refine gc 143 rfl ?_); refine gl 43 Try.func143 #[.int .i64 x230000_33, .int .i64 x234000_33, .bool false] ?_; (with_reducible refine (spec_l1Mix.calls kj33 x230000_33 x234000_33 false t242 _ A51.out).mono ?_); rintro e w' ⟨rfl, ⟨nd, rfl⟩⟩; refine ⟨_, rfl, ?_⟩; (try (rw [drewN_self wc]; generalize hq_ : World.drewN wc _ = wc; have n0_ : Aside0 (wc.heap[gb224]? = some (.cells #[.slice A1_0 l1_0.length c1_0, .slice A1_1 l1_1.length c1_1] 34 (0, 0))) := ⟨by rw [← hq_]; exact (bf BK224.out)⟩; have n1_ : Aside0 (wc.heap[gb225]? = some (.cells #[.int .i64 0, .int .i64 0, .int .i64 0, .int .i64 0, .int .i64 0] 56 (0, 0))) := ⟨by rw [← hq_]; exact (bf BK225.out)⟩; have n2_ : Aside0 (wc.heap[gb229]? = some (.cells #[.int .i64 x230000_33, .int .i64 x230001_33] 36 (0, 0))) := ⟨by rw [← hq_]; exact (bf BK229.out)⟩; have n3_ : Aside0 (wc.heap[gb233]? = some (.cells #[.int .i64 x234000_33, .int .i64 x234001_33] 36 (0, 0))) := ⟨by rw [← hq_]; exact (bf BK233.out)⟩; have n4_ : Aside0 (IsS126 w0 wc g s0_0 x1001_33) := ⟨by rw [← hq_]; exact (iis HI0.out)⟩; have n5_ : Aside0 (KeepBut w wc g none) := ⟨by rw [← hq_]; exact (ks HK.out)⟩; have n6_ : Aside0 (Below w0.heap.size w0 wc) := ⟨by rw [← hq_]; exact (bs HB.out)⟩; clear BK224 BK225 BK229 BK233 HI0 HK HB hq_; have BK224 := n0_; have BK225 := n1_; have BK229 := n2_; have BK233 := n3_; have HI0 := n4_; have HK := n5_; have HB := n6_; clear n0_ n1_ n2_ n3_ n4_ n5_ n6_))) | ((with_reducible refine gd 45 rfl ?_); refine rli (k := .i64) 3 45 ([0, 0, 0, 1, 2, 4] : List Int) ?_; intro v244 w66 ho67 hb hg_ hnew_; clear hg_ hnew_; (first | rw [← Ny243.out] at ho67 | (simp only [Int.reduceToNat] at ho67; rw [← Ny243.out] at ho67)); have HO245 := Aside0.mk (Kd.R_lower ho67 (keep_size (w := w) (g := g) (row := none) (ks HK.out))); replace BK224 := bb BK224 hb rfl; replace BK225 := bb BK225 hb rfl; replace BK229 := bb BK229 hb rfl; replace BK233 := bb BK233 hb rfl; replace HI0 := ib HI0 hb; replace HK := kb HK hb; replace HB := hs HB hb; clear hb ho67; obtain ⟨Ao68, co68, eo68⟩ := Kd.R_slice HO245.out; subst eo68) | ((with_reducible refine gc 119 rfl ?_); refine gl 46 Try.func119 #[.pointer (some ⟨g, 0, none⟩), .slice Ao68 y243.length co68] ?_; (with_reducible refine (spec_l9Rd_num.calls kj33 g s0_0 x1001_33 _ _ y243 t246 t247 w0 _ ?side1 ?side2 ?side3 ?side4 ?side5 A52.out).mono ?_); (case side1 => exact iis HI0.out); (case side2 => exact bs HB.out); (case side3 => exact cr HO245); (case side4 => exact (Kd.R_reads' HO245.out).2.1); (case side5 => exact far_slice (IsS126.own_ne HI0.out HO245.out (by decide))); rintro e w69 ⟨rfl, hi, hb, hk⟩; refine ⟨_, rfl, ?_⟩; replace BK224 := kk BK224 hk; replace BK225 := kk BK225 hk; replace BK229 := kk BK229 hk; replace BK233 := kk BK233 hk; replace HO245 := ro HO245 HI0 hk; replace HK := kt HK hk; replace HB := Aside0.mk (hb); replace HI0 := Aside0.mk (hi); (try clear hi hb hk)) | ((with_reducible refine gc 143 rfl ?_); refine gl 47 Try.func143 #[.int .i64 t242, .int .i64 t246, .bool false] ?_; (with_reducible refine (spec_l1Mix.calls kj33 t242 t246 false t248 _ A53.out).mono ?_); rintro e w' ⟨rfl, ⟨nd, rfl⟩⟩; refine ⟨_, rfl, ?_⟩; (try (rw [drewN_self w69]; generalize hq_ : World.drewN w69 _ = w69; have n0_ : Aside0 (Kd.R (Kd.int .i64) 3 w69 w.heap.size (fun _ => True) (.slice Ao68 y243.length co68) y243) := ⟨by rw [← hq_]; exact (rl HO245.out)⟩; have n1_ : Aside0 (w69.heap[gb224]? = some (.cells #[.slice A1_0 l1_0.length c1_0, .slice A1_1 l1_1.length c1_1] 34 (0, 0))) := ⟨by rw [← hq_]; exact (bf BK224.out)⟩; have n2_ : Aside0 (w69.heap[gb225]? = some (.cells #[.int .i64 0, .int .i64 0, .int .i64 0, .int .i64 0, .int .i64 0] 56 (0, 0))) := ⟨by rw [← hq_]; exact (bf BK225.out)⟩; have n3_ : Aside0 (w69.heap[gb229]? = some (.cells #[.int .i64 x230000_33, .int .i64 x230001_33] 36 (0, 0))) := ⟨by rw [← hq_]; exact (bf BK229.out)⟩; have n4_ : Aside0 (w69.heap[gb233]? = some (.cells #[.int .i64 x234000_33, .int .i64 x234001_33] 36 (0, 0))) := ⟨by rw [← hq_]; exact (bf BK233.out)⟩; have n5_ : Aside0 (IsS126 w0 w69 g s0_0 t247) := ⟨by rw [← hq_]; exact (iis HI0.out)⟩; have n6_ : Aside0 (KeepBut w w69 g none) := ⟨by rw [← hq_]; exact (ks HK.out)⟩; have n7_ : Aside0 (Below w0.heap.size w0 w69) := ⟨by rw [← hq_]; exact (bs HB.out)⟩; clear HO245 BK224 BK225 BK229 BK233 HI0 HK HB hq_; have HO245 := n0_; have BK224 := n1_; have BK225 := n2_; have BK229 := n3_; have BK233 := n4_; have HI0 := n5_; have HK := n6_; have HB := n7_; clear n0_ n1_ n2_ n3_ n4_ n5_ n6_ n7_))))
      replace HO245 := rd_ HO245
      replace BK224 := bd BK224
      replace BK225 := bd BK225
      replace BK229 := bd BK229
      replace BK233 := bd BK233
      replace HI0 := Aside0.mk (IsS126.drew HI0.out)
      replace HK := Aside0.mk (keep_drew HK.out)
      replace HB := hd HB
      refine start_ (n := 5) (S := fun w' => w'.cell? ⟨gb229, 0, none⟩ = some (.int .i64 x230000_33) ∧ w'.cell? ⟨gb229, 1, none⟩ = some (.int .i64 x230001_33) ∧ w'.cell? ⟨gb233, 0, none⟩ = some (.int .i64 x234000_33) ∧ w'.cell? ⟨gb233, 1, none⟩ = some (.int .i64 x234001_33)) (ds := []) #[false, false, false, false, false] (by kernel_rfl) rfl rfl ⟨(blk_cell BK229.out 0).trans rfl, (blk_cell BK229.out 1).trans rfl, (blk_cell BK233.out 0).trans rfl, (blk_cell BK233.out 1).trans rfl⟩ (fun hHeld => ?_)
      generalize w69.drew = w70 at HO245 BK224 BK225 BK229 BK233 HI0 HK HB hHeld ⊢
      refine tk 0 48 ?_
      refine tk 2 50 ?_
      refine one_ (i := 1) (N := some 49) #[true, true, true, false, false] rfl rfl (by kernel_rfl) (by decide) (fun K hK => ?_)
      refine gs Try.func76 #[.agg #[.int .i64 x230000_33, .int .i64 x230001_33]] ?_
      with_reducible refine (spec_l2Code.calls x230000_33 x230001_33 t249 _ A54.out).mono ?_
      rintro e w71 ⟨rfl, hb⟩
      refine ⟨_, rfl, ?_⟩
      replace HO245 := rb HO245 hb
      replace BK224 := bb BK224 hb rfl
      replace BK225 := bb BK225 hb rfl
      replace BK229 := bb BK229 hb rfl
      replace BK233 := bb BK233 hb rfl
      replace HI0 := ib HI0 hb
      replace HK := kb HK hb
      replace HB := hs HB hb
      (try clear hb)
      (try clear hb2)
      (try clear hk)
      (try clear hi)
      refine hK.out _ _ ⟨(blk_cell BK229.out 0).trans rfl, (blk_cell BK229.out 1).trans rfl, (blk_cell BK233.out 0).trans rfl, (blk_cell BK233.out 1).trans rfl⟩ (fun hHeld => ?_)
      clear hK K
      refine nrm 49 ?_
      refine one_ (i := 3) (N := some 51) #[true, true, true, true, false] rfl rfl (by kernel_rfl) (by decide) (fun K hK => ?_)
      refine gs Try.func76 #[.agg #[.int .i64 x234000_33, .int .i64 x234001_33]] ?_
      with_reducible refine (spec_l2Code.calls x234000_33 x234001_33 t250 _ A55.out).mono ?_
      rintro e w72 ⟨rfl, hb⟩
      refine ⟨_, rfl, ?_⟩
      replace HO245 := rb HO245 hb
      replace BK224 := bb BK224 hb rfl
      replace BK225 := bb BK225 hb rfl
      replace BK229 := bb BK229 hb rfl
      replace BK233 := bb BK233 hb rfl
      replace HI0 := ib HI0 hb
      replace HK := kb HK hb
      replace HB := hs HB hb
      (try clear hb)
      (try clear hb2)
      (try clear hk)
      (try clear hi)
      refine hK.out _ _ ⟨(blk_cell BK229.out 0).trans rfl, (blk_cell BK229.out 1).trans rfl, (blk_cell BK233.out 0).trans rfl, (blk_cell BK233.out 1).trans rfl⟩ (fun hHeld => ?_)
      clear hK K
      refine nrm 51 ?_
      refine pu 4 52 ?_
      refine done_ (by kernel_rfl) ?_
      obtain ⟨hcz73_0, hcz73_1⟩ := bc2 (w := w72) BK233.out
      have hfz73 := blk_frozen BK233.out
      obtain ⟨hcz74_0, hcz74_1⟩ := bc2 (w := w72) BK229.out
      have hfz74 := blk_frozen BK229.out
      have hnb75 := NB225_224.out
      have hnc75 := NB224_225.out
      have hnb76 := NB225_0.out
      have hnc76 := NB0_225.out
      obtain ⟨hcz77_0, hcz77_1, hcz77_2, hcz77_3, hcz77_4⟩ := bc5 (w := w72) BK225.out
      have hfz77 := blk_frozen BK225.out
      try go_wp2
      refine bodyPost_ret (results_cell_row rfl _ _ gb225 56 #[.int .i64 t248, .int .i64 x234000_33, .int .i64 x234001_33, .int .i64 x230000_33, .int .i64 x230001_33] (0, 0) _ rfl (bp BK225.out rfl) Try.underlying56 rfl (by kernel_rfl)) rfl ?_
      exact ⟨eqr, iis HI0.out, bs HB.out, ks HK.out⟩
     ·rw [if_neg c56] at H
      have c56b0 : decide (t250 < t249) = false := decide_eq_false c56
      clear c56
      simp only [Option.some.injEq, Prod.mk.injEq] at H
      obtain ⟨rfl, rfl, rfl, rfl, rfl, rfl⟩ := H
      have hnb78 := NB229_224.out
      have hnc78 := NB224_229.out
      have hnb79 := NB229_225.out
      have hnc79 := NB225_229.out
      have hnb80 := NB229_233.out
      have hnc80 := NB233_229.out
      have hnb81 := NB229_0.out
      have hnc81 := NB0_229.out
      obtain ⟨hcz82_0, hcz82_1⟩ := bc2 (w := wc) BK229.out
      have hfz82 := blk_frozen BK229.out
      have hnb83 := NB233_224.out
      have hnc83 := NB224_233.out
      have hnb84 := NB233_225.out
      have hnc84 := NB225_233.out
      have hnb85 := NB233_0.out
      have hnc85 := NB0_233.out
      obtain ⟨hcz86_0, hcz86_1⟩ := bc2 (w := wc) BK233.out
      have hfz86 := blk_frozen BK233.out
      try go_wp2_with (first | ((with_reducible refine gc 143 rfl ?_); refine gl 43 Try.func143 #[.int .i64 x230000_33, .int .i64 x234000_33, .bool false] ?_; (with_reducible refine (spec_l1Mix.calls kj33 x230000_33 x234000_33 false t242 _ A51.out).mono ?_); rintro e w' ⟨rfl, ⟨nd, rfl⟩⟩; refine ⟨_, rfl, ?_⟩; (try (rw [drewN_self wc]; generalize hq_ : World.drewN wc _ = wc; have n0_ : Aside0 (wc.heap[gb224]? = some (.cells #[.slice A1_0 l1_0.length c1_0, .slice A1_1 l1_1.length c1_1] 34 (0, 0))) := ⟨by rw [← hq_]; exact (bf BK224.out)⟩; have n1_ : Aside0 (wc.heap[gb225]? = some (.cells #[.int .i64 0, .int .i64 0, .int .i64 0, .int .i64 0, .int .i64 0] 56 (0, 0))) := ⟨by rw [← hq_]; exact (bf BK225.out)⟩; have n2_ : Aside0 (wc.heap[gb229]? = some (.cells #[.int .i64 x230000_33, .int .i64 x230001_33] 36 (0, 0))) := ⟨by rw [← hq_]; exact (bf BK229.out)⟩; have n3_ : Aside0 (wc.heap[gb233]? = some (.cells #[.int .i64 x234000_33, .int .i64 x234001_33] 36 (0, 0))) := ⟨by rw [← hq_]; exact (bf BK233.out)⟩; have n4_ : Aside0 (IsS126 w0 wc g s0_0 x1001_33) := ⟨by rw [← hq_]; exact (iis HI0.out)⟩; have n5_ : Aside0 (KeepBut w wc g none) := ⟨by rw [← hq_]; exact (ks HK.out)⟩; have n6_ : Aside0 (Below w0.heap.size w0 wc) := ⟨by rw [← hq_]; exact (bs HB.out)⟩; clear BK224 BK225 BK229 BK233 HI0 HK HB hq_; have BK224 := n0_; have BK225 := n1_; have BK229 := n2_; have BK233 := n3_; have HI0 := n4_; have HK := n5_; have HB := n6_; clear n0_ n1_ n2_ n3_ n4_ n5_ n6_))) | ((with_reducible refine gd 45 rfl ?_); refine rli (k := .i64) 3 45 ([0, 0, 0, 1, 2, 4] : List Int) ?_; intro v244 w87 ho88 hb hg_ hnew_; clear hg_ hnew_; (first | rw [← Ny243.out] at ho88 | (simp only [Int.reduceToNat] at ho88; rw [← Ny243.out] at ho88)); have HO245 := Aside0.mk (Kd.R_lower ho88 (keep_size (w := w) (g := g) (row := none) (ks HK.out))); replace BK224 := bb BK224 hb rfl; replace BK225 := bb BK225 hb rfl; replace BK229 := bb BK229 hb rfl; replace BK233 := bb BK233 hb rfl; replace HI0 := ib HI0 hb; replace HK := kb HK hb; replace HB := hs HB hb; clear hb ho88; obtain ⟨Ao89, co89, eo89⟩ := Kd.R_slice HO245.out; subst eo89) | ((with_reducible refine gc 119 rfl ?_); refine gl 46 Try.func119 #[.pointer (some ⟨g, 0, none⟩), .slice Ao89 y243.length co89] ?_; (with_reducible refine (spec_l9Rd_num.calls kj33 g s0_0 x1001_33 _ _ y243 t246 t247 w0 _ ?side1 ?side2 ?side3 ?side4 ?side5 A52.out).mono ?_); (case side1 => exact iis HI0.out); (case side2 => exact bs HB.out); (case side3 => exact cr HO245); (case side4 => exact (Kd.R_reads' HO245.out).2.1); (case side5 => exact far_slice (IsS126.own_ne HI0.out HO245.out (by decide))); rintro e w90 ⟨rfl, hi, hb, hk⟩; refine ⟨_, rfl, ?_⟩; replace BK224 := kk BK224 hk; replace BK225 := kk BK225 hk; replace BK229 := kk BK229 hk; replace BK233 := kk BK233 hk; replace HO245 := ro HO245 HI0 hk; replace HK := kt HK hk; replace HB := Aside0.mk (hb); replace HI0 := Aside0.mk (hi); (try clear hi hb hk)) | ((with_reducible refine gc 143 rfl ?_); refine gl 47 Try.func143 #[.int .i64 t242, .int .i64 t246, .bool false] ?_; (with_reducible refine (spec_l1Mix.calls kj33 t242 t246 false t248 _ A53.out).mono ?_); rintro e w' ⟨rfl, ⟨nd, rfl⟩⟩; refine ⟨_, rfl, ?_⟩; (try (rw [drewN_self w90]; generalize hq_ : World.drewN w90 _ = w90; have n0_ : Aside0 (Kd.R (Kd.int .i64) 3 w90 w.heap.size (fun _ => True) (.slice Ao89 y243.length co89) y243) := ⟨by rw [← hq_]; exact (rl HO245.out)⟩; have n1_ : Aside0 (w90.heap[gb224]? = some (.cells #[.slice A1_0 l1_0.length c1_0, .slice A1_1 l1_1.length c1_1] 34 (0, 0))) := ⟨by rw [← hq_]; exact (bf BK224.out)⟩; have n2_ : Aside0 (w90.heap[gb225]? = some (.cells #[.int .i64 0, .int .i64 0, .int .i64 0, .int .i64 0, .int .i64 0] 56 (0, 0))) := ⟨by rw [← hq_]; exact (bf BK225.out)⟩; have n3_ : Aside0 (w90.heap[gb229]? = some (.cells #[.int .i64 x230000_33, .int .i64 x230001_33] 36 (0, 0))) := ⟨by rw [← hq_]; exact (bf BK229.out)⟩; have n4_ : Aside0 (w90.heap[gb233]? = some (.cells #[.int .i64 x234000_33, .int .i64 x234001_33] 36 (0, 0))) := ⟨by rw [← hq_]; exact (bf BK233.out)⟩; have n5_ : Aside0 (IsS126 w0 w90 g s0_0 t247) := ⟨by rw [← hq_]; exact (iis HI0.out)⟩; have n6_ : Aside0 (KeepBut w w90 g none) := ⟨by rw [← hq_]; exact (ks HK.out)⟩; have n7_ : Aside0 (Below w0.heap.size w0 w90) := ⟨by rw [← hq_]; exact (bs HB.out)⟩; clear HO245 BK224 BK225 BK229 BK233 HI0 HK HB hq_; have HO245 := n0_; have BK224 := n1_; have BK225 := n2_; have BK229 := n3_; have BK233 := n4_; have HI0 := n5_; have HK := n6_; have HB := n7_; clear n0_ n1_ n2_ n3_ n4_ n5_ n6_ n7_))))
      replace HO245 := rd_ HO245
      replace BK224 := bd BK224
      replace BK225 := bd BK225
      replace BK229 := bd BK229
      replace BK233 := bd BK233
      replace HI0 := Aside0.mk (IsS126.drew HI0.out)
      replace HK := Aside0.mk (keep_drew HK.out)
      replace HB := hd HB
      refine start_ (n := 5) (S := fun w' => w'.cell? ⟨gb229, 0, none⟩ = some (.int .i64 x230000_33) ∧ w'.cell? ⟨gb229, 1, none⟩ = some (.int .i64 x230001_33) ∧ w'.cell? ⟨gb233, 0, none⟩ = some (.int .i64 x234000_33) ∧ w'.cell? ⟨gb233, 1, none⟩ = some (.int .i64 x234001_33)) (ds := []) #[false, false, false, false, false] (by kernel_rfl) rfl rfl ⟨(blk_cell BK229.out 0).trans rfl, (blk_cell BK229.out 1).trans rfl, (blk_cell BK233.out 0).trans rfl, (blk_cell BK233.out 1).trans rfl⟩ (fun hHeld => ?_)
      generalize w90.drew = w91 at HO245 BK224 BK225 BK229 BK233 HI0 HK HB hHeld ⊢
      refine tk 0 48 ?_
      refine tk 2 50 ?_
      refine one_ (i := 1) (N := some 49) #[true, true, true, false, false] rfl rfl (by kernel_rfl) (by decide) (fun K hK => ?_)
      refine gs Try.func76 #[.agg #[.int .i64 x230000_33, .int .i64 x230001_33]] ?_
      with_reducible refine (spec_l2Code.calls x230000_33 x230001_33 t249 _ A54.out).mono ?_
      rintro e w92 ⟨rfl, hb⟩
      refine ⟨_, rfl, ?_⟩
      replace HO245 := rb HO245 hb
      replace BK224 := bb BK224 hb rfl
      replace BK225 := bb BK225 hb rfl
      replace BK229 := bb BK229 hb rfl
      replace BK233 := bb BK233 hb rfl
      replace HI0 := ib HI0 hb
      replace HK := kb HK hb
      replace HB := hs HB hb
      (try clear hb)
      (try clear hb2)
      (try clear hk)
      (try clear hi)
      refine hK.out _ _ ⟨(blk_cell BK229.out 0).trans rfl, (blk_cell BK229.out 1).trans rfl, (blk_cell BK233.out 0).trans rfl, (blk_cell BK233.out 1).trans rfl⟩ (fun hHeld => ?_)
      clear hK K
      refine nrm 49 ?_
      refine one_ (i := 3) (N := some 51) #[true, true, true, true, false] rfl rfl (by kernel_rfl) (by decide) (fun K hK => ?_)
      refine gs Try.func76 #[.agg #[.int .i64 x234000_33, .int .i64 x234001_33]] ?_
      with_reducible refine (spec_l2Code.calls x234000_33 x234001_33 t250 _ A55.out).mono ?_
      rintro e w93 ⟨rfl, hb⟩
      refine ⟨_, rfl, ?_⟩
      replace HO245 := rb HO245 hb
      replace BK224 := bb BK224 hb rfl
      replace BK225 := bb BK225 hb rfl
      replace BK229 := bb BK229 hb rfl
      replace BK233 := bb BK233 hb rfl
      replace HI0 := ib HI0 hb
      replace HK := kb HK hb
      replace HB := hs HB hb
      (try clear hb)
      (try clear hb2)
      (try clear hk)
      (try clear hi)
      refine hK.out _ _ ⟨(blk_cell BK229.out 0).trans rfl, (blk_cell BK229.out 1).trans rfl, (blk_cell BK233.out 0).trans rfl, (blk_cell BK233.out 1).trans rfl⟩ (fun hHeld => ?_)
      clear hK K
      refine nrm 51 ?_
      refine pu 4 52 ?_
      refine done_ (by kernel_rfl) ?_
      obtain ⟨hcz94_0, hcz94_1⟩ := bc2 (w := w93) BK229.out
      have hfz94 := blk_frozen BK229.out
      obtain ⟨hcz95_0, hcz95_1⟩ := bc2 (w := w93) BK233.out
      have hfz95 := blk_frozen BK233.out
      have hnb96 := NB225_224.out
      have hnc96 := NB224_225.out
      have hnb97 := NB225_0.out
      have hnc97 := NB0_225.out
      obtain ⟨hcz98_0, hcz98_1, hcz98_2, hcz98_3, hcz98_4⟩ := bc5 (w := w93) BK225.out
      have hfz98 := blk_frozen BK225.out
      try go_wp2
      refine bodyPost_ret (results_cell_row rfl _ _ gb225 56 #[.int .i64 t248, .int .i64 x230000_33, .int .i64 x230001_33, .int .i64 x234000_33, .int .i64 x234001_33] (0, 0) _ rfl (bp BK225.out rfl) Try.underlying56 rfl (by kernel_rfl)) rfl ?_
      exact ⟨eqr, iis HI0.out, bs HB.out, ks HK.out⟩

end Go.Proofs.Ytohmemckdogljaa.QFnGraphView
