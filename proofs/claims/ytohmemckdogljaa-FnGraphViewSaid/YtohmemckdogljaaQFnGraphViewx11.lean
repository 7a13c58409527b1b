/- Contracts of the Go functions that this law reaches: each does what its plain Lean function says. No condition. -/
import Derived.Test.YtohmemckdogljaaQFnGraphViewx0
import Derived.Test.YtohmemckdogljaaQFnGraphViewx1
import Derived.Test.YtohmemckdogljaaQFnGraphViewx2
import Derived.Test.YtohmemckdogljaaQFnGraphViewx3
namespace Go.Proofs.Ytohmemckdogljaa.QFnGraphView
open Go.RowKit Go.Proofs.YtohmemckdogljaaW.PrintWords Go.Proofs.YtohmemckdogljaaW.PrintLast Go.Proofs.YtohmemckdogljaaW.PrintMore Go.Proofs.Ytohmemckdogljaa.Bl
attribute [local go_sem] max2_int min2_int max_two min_two max_three min_three max_four min_four   -- for this text's walks alone
set_option linter.unusedVariables false
set_option linter.unusedSimpArgs false
set_option maxHeartbeats 8000000
set_option maxRecDepth 100000

attribute [local go_sem high] eqA36 eqA56
/-! ### spec_OpLabel: function 44 -/
mutual
def spec_OpLabel.j0 : Nat → Int → Bool → Int → Int → Int → Int → Int → Int → Int → Int → Option (Int)
 | 0, _, _, _, _, _, _, _, _, _, _ => none
 | k + 1, x4, x5, x305000, x305001, x305002, x305003, x305004, x305005, x305006, x305007 => if x5 = true then ((spec_NodeOk.f x305001 x305002).bind fun t305 => (if t305 = true then (if (x305003 == 0 && ((x305004 == 0 && (x305005 == 0)) && ((x305006 == 0 && (x305007 == 0))))) = true then (some x305001) else (some (-1))) else (some (-1)))) else (if x4 = 2 then (spec_OpLabel.j1 k (x4 == 2) x305000 x305001 x305002 x305003 x305004 x305005 x305006 x305007) else (spec_OpLabel.j1 k (x4 == 3) x305000 x305001 x305002 x305003 x305004 x305005 x305006 x305007))
def spec_OpLabel.j1 : Nat → Bool → Int → Int → Int → Int → Int → Int → Int → Int → Option (Int)
 | 0, _, _, _, _, _, _, _, _, _ => none
 | k + 1, x20, x305000, x305001, x305002, x305003, x305004, x305005, x305006, x305007 => if x20 = true then ((spec_EdgeOk.f x305003 x305004 x305005 x305006 x305007).bind fun t306 => (if t306 = true then (if (x305001 == 0 && (x305002 == 0)) = true then (some x305003) else (some (-1))) else (some (-1)))) else (some (-1))
end
def spec_OpLabel.f (k : Nat) (a0_0 : Int) (a0_1 : Int) (a0_2 : Int) (a0_3 : Int) (a0_4 : Int) (a0_5 : Int) (a0_6 : Int) (a0_7 : Int) : Option (Int) := if a0_0 = 1 then (spec_OpLabel.j0 k a0_0 (a0_0 == 1) a0_0 a0_1 a0_2 a0_3 a0_4 a0_5 a0_6 a0_7) else (spec_OpLabel.j0 k a0_0 (a0_0 == 4) a0_0 a0_1 a0_2 a0_3 a0_4 a0_5 a0_6 a0_7)
theorem spec_OpLabel.calls (k : Nat) (a0_0 : Int) (a0_1 : Int) (a0_2 : Int) (a0_3 : Int) (a0_4 : Int) (a0_5 : Int) (a0_6 : Int) (a0_7 : Int) (r : Int) (w : World) (h : spec_OpLabel.f k a0_0 a0_1 a0_2 a0_3 a0_4 a0_5 a0_6 a0_7 = some r) :
  Calls Try.prog 44 #[.agg #[.int .i64 a0_0, .int .i64 a0_1, .int .i64 a0_2, .int .i64 a0_3, .int .i64 a0_4, .int .i64 a0_5, .int .i64 a0_6, .int .i64 a0_7]] w fun e w' => e = .returned (.int .i64 r) ∧ Below w.heap.size w w' := by
 have hu58 := Try.underlying58
 have hu36 := Try.underlying36
 have hu56 := Try.underlying56
 have HB := Aside0.mk (Below.refl w.heap.size w)
 have H := h; unfold spec_OpLabel.f at H
 clear h
 have HC2 := Aside0.mk H
 clear H
 go_enter Try.func44, Try.ntmps44
 go_upto_if 5 with (first | ((with_reducible refine gd 1 rfl ?_); refine bx 1 (cs := #[.int .i64 a0_0, .int .i64 a0_1, .int .i64 a0_2, .int .i64 a0_3, .int .i64 a0_4, .int .i64 a0_5, .int .i64 a0_6, .int .i64 a0_7]) (t := 58) ?_; intro gb304 hg w3 hbox hb; have BK304 := Aside0.mk (hbox); have GW304 := gwb HB hg; replace HB := hs HB hb; clear hb hbox hg; obtain ⟨hcz4_0, hcz4_1, hcz4_2, hcz4_3, hcz4_4, hcz4_5, hcz4_6, hcz4_7⟩ := bc8 (w := w3) BK304.out; have hfz4 := blk_frozen BK304.out))
 (try simp only [Act.put, List.setIfInBounds_toArray, List.set_cons_zero, List.set_cons_succ])
 go_cut [5] (fun v5 wc => ∃ (kq : Nat) (x5_1 : Bool), v5 = .bool x5_1 ∧ Aside0 (spec_OpLabel.j0 kq a0_0 x5_1 a0_0 a0_1 a0_2 a0_3 a0_4 a0_5 a0_6 a0_7 = some r) ∧ Aside0 (kq ≤ k) ∧ Aside0 (wc.heap[gb304]? = some (.cells #[.int .i64 a0_0, .int .i64 a0_1, .int .i64 a0_2, .int .i64 a0_3, .int .i64 a0_4, .int .i64 a0_5, .int .i64 a0_6, .int .i64 a0_7] 58 (0, 0))) ∧ Aside0 (Below w.heap.size w wc))
 case first =>
  have H := HC2.out
  clear HC2
  by_cases c5 : a0_0 = 1
  ·rw [if_pos c5] at H
   have c5b0 : (a0_0 == 1) = true := beq_iff_eq.mpr c5
   have c5b1 : (a0_0 != 1) = false := bne_eq_false_iff_eq.mpr c5
   clear c5
   (first | rw [c5b0] | (simp only [i64_w, i32_w]; rw [c5b0]) | skip)
   have H' := Aside0.mk H
   clear H
   go_wp2
   go_meet
   case rel => exact ⟨_, ((a0_0 == 1)), eqs, H', ⟨by first | omega | exact Nat.le_refl _⟩, ⟨bf BK304.out⟩, ⟨bs HB.out⟩⟩
  ·rw [if_neg c5] at H
   have c5b0 : (a0_0 == 1) = false := beq_eq_false_iff_ne.mpr c5
   have c5b1 : (a0_0 != 1) = true := bne_iff_ne.mpr c5
   (first | rw [c5b0] | (simp only [i64_w, i32_w]; rw [c5b0]) | skip)
   have H' := Aside0.mk H
   clear H
   go_wp2
   go_meet
   case rel => exact ⟨_, ((a0_0 == 4)), eqs, H', ⟨by first | omega | exact Nat.le_refl _⟩, ⟨bf BK304.out⟩, ⟨bs HB.out⟩⟩
 case rest =>
  clear HC2
  try clear p2
  try clear c4
  try clear c5
  try clear c5b0
  try clear c5b1
  try clear hcz4_0 hcz4_1 hcz4_2 hcz4_3 hcz4_4 hcz4_5 hcz4_6 hcz4_7
  try clear hfz4
  obtain ⟨kq, x5_1, rfl, HA, HJ1, BK304, HB⟩ := hcut
  cases kq with
  | zero => exact absurd HA.out (by simp [spec_OpLabel.j0])
  | succ kj1 =>
   have H := HA.out
   clear HA
   simp only [spec_OpLabel.j0] at H
   by_cases c6 : x5_1 = true
   ·subst c6
    have H1 : ((spec_NodeOk.f a0_1 a0_2).bind fun t305 => (if t305 = true then (if (a0_3 == 0 && ((a0_4 == 0 && (a0_5 == 0)) && ((a0_6 == 0 && (a0_7 == 0))))) = true then (some a0_1) else (some (-1))) else (some (-1)))) = some r := by rw [if_pos rfl] at H; exact H
    clear H
    have H := H1
    clear H1
    replace H := Option.bind_eq_some_iff.mp H
    obtain ⟨t305, A70, H⟩ := H
    try dsimp -simprocs only at H
    have A7 := Aside0.mk A70
    clear A70
    by_cases c8 : t305 = true
    ·subst c8
     have H1 : (if (a0_3 == 0 && ((a0_4 == 0 && (a0_5 == 0)) && ((a0_6 == 0 && (a0_7 == 0))))) = true then (some a0_1) else (some (-1))) = some r := by rw [if_pos rfl] at H; exact H
     clear H
     have H := H1
     clear H1
     by_cases c9 : (a0_3 == 0 && ((a0_4 == 0 && (a0_5 == 0)) && ((a0_6 == 0 && (a0_7 == 0))))) = true
     ·rw [if_pos c9] at H
      have c9b0 : (a0_3 == 0 && ((a0_4 == 0 && (a0_5 == 0)) && ((a0_6 == 0 && (a0_7 == 0))))) = true := c9
      (try (have c9b1 : decide (a0_3 = 0 && ((a0_4 == 0 && (a0_5 == 0)) && ((a0_6 == 0 && (a0_7 == 0))))) = true := by simpa using c9))
      (try (have c9b2 : (a0_3 == 0 && ((a0_4 == 0 && (a0_5 == 0)) && ((a0_6 == 0 && (a0_7 == 0))))) = true := by simpa using c9))
      clear c9
      obtain rfl := Option.some.inj H
      obtain ⟨hcz10_0, hcz10_1, hcz10_2, hcz10_3, hcz10_4, hcz10_5, hcz10_6, hcz10_7⟩ := bc8 (w := wc) BK304.out
      have hfz10 := blk_frozen BK304.out
      go_wp2_with (first | ((with_reducible refine gc 75 rfl ?_); refine gl 10 Try.func75 #[.agg #[.int .i64 a0_1, .int .i64 a0_2]] ?_; (with_reducible refine (spec_NodeOk.calls a0_1 a0_2 true _ A7.out).mono ?_); rintro e w11 ⟨rfl, hb⟩; refine ⟨_, rfl, ?_⟩; replace BK304 := bb BK304 hb rfl; replace HB := hs HB hb; (try clear hb); obtain ⟨hcz12_0, hcz12_1, hcz12_2, hcz12_3, hcz12_4, hcz12_5, hcz12_6, hcz12_7⟩ := bc8 (w := w11) BK304.out; have hfz12 := blk_frozen BK304.out))
      go_ret
      exact ⟨eqr, bs HB.out⟩
     ·rw [if_neg c9] at H
      have c9b0 : (a0_3 == 0 && ((a0_4 == 0 && (a0_5 == 0)) && ((a0_6 == 0 && (a0_7 == 0))))) = false := by simpa using c9
      (try (have c9b1 : decide (a0_3 = 0 && ((a0_4 == 0 && (a0_5 == 0)) && ((a0_6 == 0 && (a0_7 == 0))))) = false := by simpa using c9))
      (try (have c9b2 : (a0_3 == 0 && ((a0_4 == 0 && (a0_5 == 0)) && ((a0_6 == 0 && (a0_7 == 0))))) = false := by simpa using c9))
      (try (have c9b3 : ¬ (a0_3 = 0 && ((a0_4 == 0 && (a0_5 == 0)) && ((a0_6 == 0 && (a0_7 == 0))))) := by simpa using c9))
      clear c9
      obtain rfl := Option.some.inj H
      obtain ⟨hcz13_0, hcz13_1, hcz13_2, hcz13_3, hcz13_4, hcz13_5, hcz13_6, hcz13_7⟩ := bc8 (w := wc) BK304.out
      have hfz13 := blk_frozen BK304.out
      go_wp2_with (first | ((with_reducible refine gc 75 rfl ?_); refine gl 10 Try.func75 #[.agg #[.int .i64 a0_1, .int .i64 a0_2]] ?_; (with_reducible refine (spec_NodeOk.calls a0_1 a0_2 true _ A7.out).mono ?_); rintro e w14 ⟨rfl, hb⟩; refine ⟨_, rfl, ?_⟩; replace BK304 := bb BK304 hb rfl; replace HB := hs HB hb; (try clear hb); obtain ⟨hcz15_0, hcz15_1, hcz15_2, hcz15_3, hcz15_4, hcz15_5, hcz15_6, hcz15_7⟩ := bc8 (w := w14) BK304.out; have hfz15 := blk_frozen BK304.out))
      go_ret
      exact ⟨eqr, bs HB.out⟩
    ·replace c8 := Bool.eq_false_iff.mpr c8
     subst c8
     have H1 : (some (-1)) = some r := by rw [if_neg (show ¬ (false = true) by decide)] at H; exact H
     clear H
     have H := H1
     clear H1
     obtain rfl := Option.some.inj H
     obtain ⟨hcz16_0, hcz16_1, hcz16_2, hcz16_3, hcz16_4, hcz16_5, hcz16_6, hcz16_7⟩ := bc8 (w := wc) BK304.out
     have hfz16 := blk_frozen BK304.out
     go_wp2_with (first | ((with_reducible refine gc 75 rfl ?_); refine gl 10 Try.func75 #[.agg #[.int .i64 a0_1, .int .i64 a0_2]] ?_; (with_reducible refine (spec_NodeOk.calls a0_1 a0_2 false _ A7.out).mono ?_); rintro e w17 ⟨rfl, hb⟩; refine ⟨_, rfl, ?_⟩; replace BK304 := bb BK304 hb rfl; replace HB := hs HB hb; (try clear hb)))
     go_ret
     exact ⟨eqr, bs HB.out⟩
   ·replace c6 := Bool.eq_false_iff.mpr c6
    subst c6
    have H1 : (if a0_0 = 2 then (spec_OpLabel.j1 kj1 (a0_0 == 2) a0_0 a0_1 a0_2 a0_3 a0_4 a0_5 a0_6 a0_7) else (spec_OpLabel.j1 kj1 (a0_0 == 3) a0_0 a0_1 a0_2 a0_3 a0_4 a0_5 a0_6 a0_7)) = some r := by rw [if_neg (show ¬ (false = true) by decide)] at H; exact H
    clear H
    have H := H1
    clear H1
    have HC18 := Aside0.mk H
    clear H
    go_upto_if 20 with (fail)
    go_cut [20] (fun v20 wc => ∃ (kq : Nat) (x20_17 : Bool), v20 = .bool x20_17 ∧ Aside0 (spec_OpLabel.j1 kq x20_17 a0_0 a0_1 a0_2 a0_3 a0_4 a0_5 a0_6 a0_7 = some r) ∧ Aside0 (kq ≤ kj1) ∧ Aside0 (wc.heap[gb304]? = some (.cells #[.int .i64 a0_0, .int .i64 a0_1, .int .i64 a0_2, .int .i64 a0_3, .int .i64 a0_4, .int .i64 a0_5, .int .i64 a0_6, .int .i64 a0_7] 58 (0, 0))) ∧ Aside0 (Below w.heap.size w wc))
    case first =>
     have H := HC18.out
     clear HC18
     by_cases c19 : a0_0 = 2
     ·rw [if_pos c19] at H
      have c19b0 : (a0_0 == 2) = true := beq_iff_eq.mpr c19
      have c19b1 : (a0_0 != 2) = false := bne_eq_false_iff_eq.mpr c19
      clear c19
      (first | rw [c19b0] | (simp only [i64_w, i32_w]; rw [c19b0]) | skip)
      have H' := Aside0.mk H
      clear H
      go_wp2
      go_meet
      case rel => exact ⟨_, ((a0_0 == 2)), eqs, H', ⟨by have := HJ1.out; first | omega | exact Nat.le_refl _⟩, ⟨bf BK304.out⟩, ⟨bs HB.out⟩⟩
     ·rw [if_neg c19] at H
      have c19b0 : (a0_0 == 2) = false := beq_eq_false_iff_ne.mpr c19
      have c19b1 : (a0_0 != 2) = true := bne_iff_ne.mpr c19
      (first | rw [c19b0] | (simp only [i64_w, i32_w]; rw [c19b0]) | skip)
      have H' := Aside0.mk H
      clear H
      go_wp2
      go_meet
      case rel => exact ⟨_, ((a0_0 == 3)), eqs, H', ⟨by have := HJ1.out; first | omega | exact Nat.le_refl _⟩, ⟨bf BK304.out⟩, ⟨bs HB.out⟩⟩
    case rest =>
     clear HC18
     try clear c1
     try clear p2
     try clear c4
     try clear c5
     try clear c5b0
     try clear c5b1
     try clear c6
     try clear c7
     try clear c8
     try clear c9
     try clear c9b0
     try clear c9b1
     try clear c9b2
     try clear c19
     try clear c19b0
     try clear c19b1
     try clear hcz10_0 hcz10_1 hcz10_2 hcz10_3 hcz10_4 hcz10_5 hcz10_6 hcz10_7
     try clear hcz12_0 hcz12_1 hcz12_2 hcz12_3 hcz12_4 hcz12_5 hcz12_6 hcz12_7
     try clear hcz13_0 hcz13_1 hcz13_2 hcz13_3 hcz13_4 hcz13_5 hcz13_6 hcz13_7
     try clear hcz15_0 hcz15_1 hcz15_2 hcz15_3 hcz15_4 hcz15_5 hcz15_6 hcz15_7
     try clear hcz16_0 hcz16_1 hcz16_2 hcz16_3 hcz16_4 hcz16_5 hcz16_6 hcz16_7
     try clear hcz4_0 hcz4_1 hcz4_2 hcz4_3 hcz4_4 hcz4_5 hcz4_6 hcz4_7
     try clear hfz10
     try clear hfz12
     try clear hfz13
     try clear hfz15
     try clear hfz16
     try clear hfz4
     try clear p2
     obtain ⟨kq, x20_17, rfl, HA, HJ17, BK304, HB⟩ := hcut
     cases kq with
     | zero => exact absurd HA.out (by simp [spec_OpLabel.j1])
     | succ kj17 =>
      have H := HA.out
      clear HA
      simp only [spec_OpLabel.j1] at H
      by_cases c20 : x20_17 = true
      ·subst c20
       have H1 : ((spec_EdgeOk.f a0_3 a0_4 a0_5 a0_6 a0_7).bind fun t306 => (if t306 = true then (if (a0_1 == 0 && (a0_2 == 0)) = true then (some a0_3) else (some (-1))) else (some (-1)))) = some r := by rw [if_pos rfl] at H; exact H
       clear H
       have H := H1
       clear H1
       replace H := Option.bind_eq_some_iff.mp H
       obtain ⟨t306, A210, H⟩ := H
       try dsimp -simprocs only at H
       have A21 := Aside0.mk A210
       clear A210
       by_cases c22 : t306 = true
       ·subst c22
        have H1 : (if (a0_1 == 0 && (a0_2 == 0)) = true then (some a0_3) else (some (-1))) = some r := by rw [if_pos rfl] at H; exact H
        clear H
        have H := H1
        clear H1
        by_cases c23 : (a0_1 == 0 && (a0_2 == 0)) = true
        ·rw [if_pos c23] at H
         have c23b0 : (a0_1 == 0 && (a0_2 == 0)) = true := c23
         (try (have c23b1 : decide (a0_1 = 0 && (a0_2 == 0)) = true := by simpa using c23))
         (try (have c23b2 : (a0_1 == 0 && (a0_2 == 0)) = true := by simpa using c23))
         clear c23
         obtain rfl := Option.some.inj H
         obtain ⟨hcz24_0, hcz24_1, hcz24_2, hcz24_3, hcz24_4, hcz24_5, hcz24_6, hcz24_7⟩ := bc8 (w := wc) BK304.out
         have hfz24 := blk_frozen BK304.out
         go_wp2_with (first | ((with_reducible refine gc 77 rfl ?_); refine gl 25 Try.func77 #[.agg #[.int .i64 a0_3, .int .i64 a0_4, .int .i64 a0_5, .int .i64 a0_6, .int .i64 a0_7]] ?_; (with_reducible refine (spec_EdgeOk.calls a0_3 a0_4 a0_5 a0_6 a0_7 true _ A21.out).mono ?_); rintro e w25 ⟨rfl, hb⟩; refine ⟨_, rfl, ?_⟩; replace BK304 := bb BK304 hb rfl; replace HB := hs HB hb; (try clear hb); obtain ⟨hcz26_0, hcz26_1, hcz26_2, hcz26_3, hcz26_4, hcz26_5, hcz26_6, hcz26_7⟩ := bc8 (w := w25) BK304.out; have hfz26 := blk_frozen BK304.out))
         go_ret
         exact ⟨eqr, bs HB.out⟩
        ·rw [if_neg c23] at H
         have c23b0 : (a0_1 == 0 && (a0_2 == 0)) = false := by simpa using c23
         (try (have c23b1 : decide (a0_1 = 0 && (a0_2 == 0)) = false := by simpa using c23))
         (try (have c23b2 : (a0_1 == 0 && (a0_2 == 0)) = false := by simpa using c23))
         (try (have c23b3 : ¬ (a0_1 = 0 && (a0_2 == 0)) := by simpa using c23))
         clear c23
         obtain rfl := Option.some.inj H
         obtain ⟨hcz27_0, hcz27_1, hcz27_2, hcz27_3, hcz27_4, hcz27_5, hcz27_6, hcz27_7⟩ := bc8 (w := wc) BK304.out
         have hfz27 := blk_frozen BK304.out
         go_wp2_with (first | ((with_reducible refine gc 77 rfl ?_); refine gl 25 Try.func77 #[.agg #[.int .i64 a0_3, .int .i64 a0_4, .int .i64 a0_5, .int .i64 a0_6, .int .i64 a0_7]] ?_; (with_reducible refine (spec_EdgeOk.calls a0_3 a0_4 a0_5 a0_6 a0_7 true _ A21.out).mono ?_); rintro e w28 ⟨rfl, hb⟩; refine ⟨_, rfl, ?_⟩; replace BK304 := bb BK304 hb rfl; replace HB := hs HB hb; (try clear hb); obtain ⟨hcz29_0, hcz29_1, hcz29_2, hcz29_3, hcz29_4, hcz29_5, hcz29_6, hcz29_7⟩ := bc8 (w := w28) BK304.out; have hfz29 := blk_frozen BK304.out))
         go_ret
         exact ⟨eqr, bs HB.out⟩
       ·replace c22 := Bool.eq_false_iff.mpr c22
        subst c22
        have H1 : (some (-1)) = some r := by rw [if_neg (show ¬ (false = true) by decide)] at H; exact H
        clear H
        have H := H1
        clear H1
        obtain rfl := Option.some.inj H
        obtain ⟨hcz30_0, hcz30_1, hcz30_2, hcz30_3, hcz30_4, hcz30_5, hcz30_6, hcz30_7⟩ := bc8 (w := wc) BK304.out
        have hfz30 := blk_frozen BK304.out
        go_wp2_with (first | ((with_reducible refine gc 77 rfl ?_); refine gl 25 Try.func77 #[.agg #[.int .i64 a0_3, .int .i64 a0_4, .int .i64 a0_5, .int .i64 a0_6, .int .i64 a0_7]] ?_; (with_reducible refine (spec_EdgeOk.calls a0_3 a0_4 a0_5 a0_6 a0_7 false _ A21.out).mono ?_); rintro e w31 ⟨rfl, hb⟩; refine ⟨_, rfl, ?_⟩; replace BK304 := bb BK304 hb rfl; replace HB := hs HB hb; (try clear hb)))
        go_ret
        exact ⟨eqr, bs HB.out⟩
      ·replace c20 := Bool.eq_false_iff.mpr c20
       subst c20
       have H1 : (some (-1)) = some r := by rw [if_neg (show ¬ (false = true) by decide)] at H; exact H
       clear H
       have H := H1
       clear H1
       obtain rfl := Option.some.inj H
       go_wp2
       go_ret
       exact ⟨eqr, bs HB.out⟩

/-! ### spec_l2Copy: function 97 -/
def spec_l2Copy.f (l0_0 : List (S36)) (l0_1 : List (S56)) : Option ((List (S36)) × (List (S56))) := (some (([] : List (S36)) : List (S36))).bind fun y309 => (if y309.length + l0_0.length < 8796093022208 then ((some (([] : List (S56)) : List (S56))).bind fun y315 => (if y315.length + l0_1.length < 3518437208883 then (some ((y309 ++ l0_0), (y315 ++ l0_1))) else (none))) else (none))
def spec_l2Copy.T1 : Bool × List (List Nat × List Nat) := (true, [([], []), ([], []), ([1], [1]), ([0, 2], [0, 2]), ([], []), ([], []), ([5], [5]), ([4, 6, 3], [4, 6]), ([3, 7], [3, 7]), ([8, 7, 0, 1, 2, 3, 4, 5, 6, 7, 8], [8])])
def spec_l2Copy.B1 : List Nat := [0, 0, 2, 7, 0, 0, 32, 127, 255, 511]
theorem spec_l2Copy.tab1 : rtab .any (opsOf Try.f97 1) = spec_l2Copy.T1 := by kernel_rfl
theorem spec_l2Copy.bits1 : waitsOk spec_l2Copy.T1.2 spec_l2Copy.B1 = true := by kernel_rfl
theorem spec_l2Copy.calls (A0_0 : Option Addr) (c0_0 : Nat) (l0_0 : List (S36)) (A0_1 : Option Addr) (c0_1 : Nat) (l0_1 : List (S56)) (r1 : List (S36)) (r2 : List (S56)) (w : World) (hr0_0 : Kd.C k36 w A0_0 l0_0.length l0_0) (hc0_0 : l0_0.length ≤ c0_0) (hr0_1 : Kd.C k56 w A0_1 l0_1.length l0_1) (hc0_1 : l0_1.length ≤ c0_1) (h : spec_l2Copy.f l0_0 l0_1 = some (r1, r2)) :
  Calls Try.prog 97 #[.agg #[.slice A0_0 l0_0.length c0_0, .slice A0_1 l0_1.length c0_1]] w fun e w' => ∃ v0_ v1_ : Value, e = .returned (.agg #[v0_, v1_]) ∧ Kd.R k36 36 w' w.heap.size (fun _ => True) v0_ r1 ∧ Kd.R k56 56 w' w.heap.size (fun _ => True) v1_ r2 ∧ Below w.heap.size w w' := by
 have hu34 := Try.underlying34
 have HR0_0 := Aside0.mk hr0_0
 have HC0_0 := Aside0.mk hc0_0
 clear hr0_0 hc0_0
 have HR0_1 := Aside0.mk hr0_1
 have HC0_1 := Aside0.mk hc0_1
 clear hr0_1 hc0_1
 have HB := Aside0.mk (Below.refl w.heap.size w)
 have H := h; unfold spec_l2Copy.f at H
 clear h
 obtain ⟨y309, hy309⟩ : ∃ y_ : List (S36), y_ = (([] : List (S36))) := ⟨_, rfl⟩
 replace H : (if y309.length + l0_0.length < 8796093022208 then ((some (([] : List (S56)) : List (S56))).bind fun y315 => (if y315.length + l0_1.length < 3518437208883 then (some ((y309 ++ l0_0), (y315 ++ l0_1))) else (none))) else (none)) = some (r1, r2) := by first | (rw [hy309]; exact H) | exact H
 have Ny309 := Aside0.mk hy309
 clear hy309
 by_cases c2 : y309.length + l0_0.length < 8796093022208
 ·rw [if_pos c2] at H
  have LMc2 := Aside0.mk c2
  clear c2
  obtain ⟨y312, hy312⟩ : ∃ y_ : List (S36), y_ = (y309 ++ l0_0) := ⟨_, rfl⟩
  replace H : ((some (([] : List (S56)) : List (S56))).bind fun y315 => (if y315.length + l0_1.length < 3518437208883 then (some (y312, (y315 ++ l0_1))) else (none))) = some (r1, r2) := by first | (rw [hy312]; exact H) | exact H
  have Ny312 := Aside0.mk hy312
  clear hy312
  obtain ⟨y315, hy315⟩ : ∃ y_ : List (S56), y_ = (([] : List (S56))) := ⟨_, rfl⟩
  replace H : (if y315.length + l0_1.length < 3518437208883 then (some (y312, (y315 ++ l0_1))) else (none)) = some (r1, r2) := by first | (rw [hy315]; exact H) | exact H
  have Ny315 := Aside0.mk hy315
  clear hy315
  by_cases c3 : y315.length + l0_1.length < 3518437208883
  ·rw [if_pos c3] at H
   have LMc3 := Aside0.mk c3
   clear c3
   obtain ⟨y318, hy318⟩ : ∃ y_ : List (S56), y_ = (y315 ++ l0_1) := ⟨_, rfl⟩
   replace H : (some (y312, y318)) = some (r1, r2) := by first | (rw [hy318]; exact H) | exact H
   have Ny318 := Aside0.mk hy318
   clear hy318
   simp only [Option.some.injEq, Prod.mk.injEq] at H
   obtain ⟨rfl, rfl⟩ := H
   go_enter Try.func97, Try.ntmps97
   try go_wp2_with (first | ((with_reducible refine gd 1 rfl ?_); refine bx 1 (cs := #[.slice A0_0 l0_0.length c0_0, .slice A0_1 l0_1.length c0_1]) (t := 34) ?_; intro gb307 hg w4 hbox hb; have BK307 := Aside0.mk (hbox); have GW307 := gwb HB hg; replace HB := hs HB hb; clear hb hbox hg) | ((with_reducible refine gd 2 rfl ?_); refine bx 2 (cs := #[.slice none 0 0, .slice none 0 0]) (t := 34) ?_; intro gb308 hg w5 hbox hb; have BK308 := Aside0.mk (hbox); have GW308 := gwb HB hg; replace HB := hs HB hb; have NB307_308 := nq BK307 hg; have NB308_307 := nq' BK307 hg; replace BK307 := bb BK307 hb rfl; clear hb hbox hg))
   replace BK307 := bd BK307
   replace BK308 := bd BK308
   replace HB := hd HB
   refine start_ (n := 10) (S := fun w' => w'.cell? ⟨gb307, 0, none⟩ = some (.slice A0_0 l0_0.length c0_0) ∧ w'.cell? ⟨gb307, 1, none⟩ = some (.slice A0_1 l0_1.length c0_1)) (ds := []) #[false, false, false, false, false, false, false, false, false, false] (by kernel_rfl) rfl rfl ⟨(blk_cell BK307.out 0).trans rfl, (blk_cell BK307.out 1).trans rfl⟩ (fun hHeld => ?_); refine with_tabW spec_l2Copy.tab1 spec_l2Copy.bits1 (fun HT_ HW_ => ?_)
   generalize w5.drew = w6 at BK307 BK308 HB hHeld ⊢
   refine pu 1 4 ?_
   refine pu 5 8 ?_
   refine tk 2 5 ?_
   refine tk 6 9 ?_
   refine join_ (σ := Value × Value × Value) 3 #[true, true, true, true, true, true, true, false, false, false] (fun s_ => [(3, s_.1), (6, s_.2.1), (7, s_.2.2)]) (fun s_ w' => (w'.cell? ⟨gb307, 0, none⟩ = some (.slice A0_0 l0_0.length c0_0) ∧ w'.cell? ⟨gb307, 1, none⟩ = some (.slice A0_1 l0_1.length c0_1)) ∧ (Kd.R k36 36 w' w.heap.size (fun _ => True) s_.2.1 y312) ∧ (Kd.R k56 56 w' w.heap.size (fun _ => True) s_.2.2 y315) ∧ (w'.heap[gb307]? = some (.cells #[.slice A0_0 l0_0.length c0_0, .slice A0_1 l0_1.length c0_1] 34 (0, 0))) ∧ (w'.heap[gb308]? = some (.cells #[.slice none 0 0, .slice none 0 0] 34 (0, 0))) ∧ (Below w.heap.size w w')) ?_ ?_
   rotate_left
   ·intro hCont
    refine two_ (i := 0) (j := 4) (Ni := some 3) (Nj := some 7) #[true, true, true, false, false, true, true, false, false, false] #[false, true, true, false, true, true, true, false, false, false] rfl rfl rfl rfl (two_of HT_.out (by kernel_rfl)) (by decide) (by decide) (fun K hK => ?_) (fun K hK => ?_)
    ·skip
     refine Kd.R_lit_step k36 _ 36 ?hg (N := 3) ?hd (xs := ([] : List (S36))) (inner := []) (ok := fun _ => True) (okp := fun _ => True) ?hr ?hp (fun _ hk => hk) trivial (Below.refl _ _) (Nat.le_refl _) (by simp) ?_; (case hd => rfl); (case hg => rfl); (case hr => first | (go_simp; done) | (go_simp; rfl)); (case hp => exact (Reps.none _ _))
     intro v310 w7 ho8 hb hg_ hnew_
     clear hg_ hnew_
     (first | rw [← Ny309.out] at ho8 | (simp only [Int.reduceToNat] at ho8; rw [← Ny309.out] at ho8))
     have HO311 := Aside0.mk (Kd.R_lower ho8 (below_size (bs HB.out)))
     replace BK307 := bb BK307 hb rfl
     replace BK308 := bb BK308 hb rfl
     replace HB := hs HB hb
     clear hb ho8
     refine hK.out _ _ ⟨(blk_cell BK307.out 0).trans rfl, (blk_cell BK307.out 1).trans rfl⟩ (fun hHeld => ?_)
     clear hK K
     refine nrm 3 ?_
     refine two_ (i := 3) (j := 4) (Ni := some 6) (Nj := some 7) #[true, true, true, true, false, true, true, false, false, false] #[true, true, true, false, true, true, true, false, false, false] rfl rfl rfl rfl (two_of HT_.out (by kernel_rfl)) (by decide) (by decide) (fun K hK => ?_) (fun K hK => ?_)
     ·skip
      refine Kd.R_append_rows_step k36 (w0 := w) w.heap.size (by rfl) (.tmp 3) (.tmp 5) 29 36 (.agg #[(.int .i64 0), (.int .i64 0)]) 16 rfl Try.underlying29 info36 rfl (by decide) (by omega) v310 y309 l0_0 _ _ _ (fun _ => True) (fun _ => False) rfl rfl ?aO ?aR (fun _ _ h => h) (fun _ h => h.elim) ?aF ?aB ?aS ?aL ?_
      (case aR => exact Kd.C_below HR0_0.out (bs HB.out))
      (case aB => exact (bs HB.out))
      (case aF => exact (fun _ _ => trivial))
      (case aO => exact (rl HO311.out))
      (case aS => exact (below_size (bs HB.out)))
      (case aL => have := LMc2.out; omega)
      intro v313 w9 ho hb hg hat
      rw [← Ny312.out] at ho
      replace BK307 := gr BK307 HO311 hg
      replace BK308 := gr BK308 HO311 hg
      replace HB := Aside0.mk (hb)
      have HO314 := Aside0.mk (ho)
      clear HO311
      clear ho hb hg hat
      refine hK.out _ _ ⟨(blk_cell BK307.out 0).trans rfl, (blk_cell BK307.out 1).trans rfl⟩ (fun hHeld => ?_)
      clear hK K
      refine nrm 6 ?_
      refine one_ (i := 4) (N := some 7) #[true, true, true, true, true, true, true, false, false, false] rfl rfl (one_of HT_.out (by kernel_rfl)) (by decide) (fun K hK => ?_)
      refine Kd.R_lit_step k56 _ 56 ?hg (N := 7) ?hd (xs := ([] : List (S56))) (inner := []) (ok := fun _ => True) (okp := fun _ => True) ?hr ?hp (fun _ hk => hk) trivial (Below.refl _ _) (Nat.le_refl _) (by simp) ?_; (case hd => rfl); (case hg => rfl); (case hr => first | (go_simp; done) | (go_simp; rfl)); (case hp => exact (Reps.none _ _))
      intro v316 w10 ho11 hb hg_ hnew_
      clear hg_ hnew_
      (first | rw [← Ny315.out] at ho11 | (simp only [Int.reduceToNat] at ho11; rw [← Ny315.out] at ho11))
      replace HO314 := rb HO314 hb
      have HO317 := Aside0.mk (Kd.R_lower ho11 (below_size (bs HB.out)))
      replace BK307 := bb BK307 hb rfl
      replace BK308 := bb BK308 hb rfl
      replace HB := hs HB hb
      clear hb ho11
      refine hK.out _ _ ⟨(blk_cell BK307.out 0).trans rfl, (blk_cell BK307.out 1).trans rfl⟩ (fun hHeld => ?_)
      clear hK K
      refine nrm 7 ?_
      exact norm_ (by simp only [putAll, Act.put, List.setIfInBounds_toArray, List.set_cons_zero, List.set_cons_succ]) (hCont (v310, v313, v316) _ ⟨hHeld, (rl HO314.out), (rl HO317.out), (bf BK307.out), (bf BK308.out), (bs HB.out)⟩)
     ·skip
      refine Kd.R_lit_step k56 _ 56 ?hg (N := 7) ?hd (xs := ([] : List (S56))) (inner := []) (ok := fun _ => True) (okp := fun _ => True) ?hr ?hp (fun _ hk => hk) trivial (Below.refl _ _) (Nat.le_refl _) (by simp) ?_; (case hd => rfl); (case hg => rfl); (case hr => first | (go_simp; done) | (go_simp; rfl)); (case hp => exact (Reps.none _ _))
      intro v316 w9 ho10 hb hg_ hnew_
      clear hg_ hnew_
      (first | rw [← Ny315.out] at ho10 | (simp only [Int.reduceToNat] at ho10; rw [← Ny315.out] at ho10))
      replace HO311 := rb HO311 hb
      have HO317 := Aside0.mk (Kd.R_lower ho10 (below_size (bs HB.out)))
      replace BK307 := bb BK307 hb rfl
      replace BK308 := bb BK308 hb rfl
      replace HB := hs HB hb
      clear hb ho10
      refine hK.out _ _ ⟨(blk_cell BK307.out 0).trans rfl, (blk_cell BK307.out 1).trans rfl⟩ (fun hHeld => ?_)
      clear hK K
      refine nrm 7 ?_
      refine one_ (i := 3) (N := some 6) #[true, true, true, true, true, true, true, false, false, false] rfl rfl (one_of HT_.out (by kernel_rfl)) (by decide) (fun K hK => ?_)
      refine Kd.R_append_rows_step k36 (w0 := w) w.heap.size (by rfl) (.tmp 3) (.tmp 5) 29 36 (.agg #[(.int .i64 0), (.int .i64 0)]) 16 rfl Try.underlying29 info36 rfl (by decide) (by omega) v310 y309 l0_0 _ _ _ (fun _ => True) (fun _ => False) rfl rfl ?aO ?aR (fun _ _ h => h) (fun _ h => h.elim) ?aF ?aB ?aS ?aL ?_
      (case aR => exact Kd.C_below HR0_0.out (bs HB.out))
      (case aB => exact (bs HB.out))
      (case aF => exact (fun _ _ => trivial))
      (case aO => exact (rl HO311.out))
      (case aS => exact (below_size (bs HB.out)))
      (case aL => have := LMc2.out; omega)
      intro v313 w11 ho hb hg hat
      rw [← Ny312.out] at ho
      replace BK307 := gr BK307 HO311 hg
      replace BK308 := gr BK308 HO311 hg
      replace HO317 := Aside0.mk (Kd.R_over' (rl HO317.out) (Kd.R_typed (rl HO311.out)) (by decide) hg)
      replace HB := Aside0.mk (hb)
      have HO314 := Aside0.mk (ho)
      clear HO311
      clear ho hb hg hat
      refine hK.out _ _ ⟨(blk_cell BK307.out 0).trans rfl, (blk_cell BK307.out 1).trans rfl⟩ (fun hHeld => ?_)
      clear hK K
      refine nrm 6 ?_
      exact norm_ (by simp only [putAll, Act.put, List.setIfInBounds_toArray, List.set_cons_zero, List.set_cons_succ]) (hCont (v310, v313, v316) _ ⟨hHeld, (rl HO314.out), (rl HO317.out), (bf BK307.out), (bf BK308.out), (bs HB.out)⟩)
    ·skip
     refine Kd.R_lit_step k56 _ 56 ?hg (N := 7) ?hd (xs := ([] : List (S56))) (inner := []) (ok := fun _ => True) (okp := fun _ => True) ?hr ?hp (fun _ hk => hk) trivial (Below.refl _ _) (Nat.le_refl _) (by simp) ?_; (case hd => rfl); (case hg => rfl); (case hr => first | (go_simp; done) | (go_simp; rfl)); (case hp => exact (Reps.none _ _))
     intro v316 w7 ho8 hb hg_ hnew_
     clear hg_ hnew_
     (first | rw [← Ny315.out] at ho8 | (simp only [Int.reduceToNat] at ho8; rw [← Ny315.out] at ho8))
     have HO317 := Aside0.mk (Kd.R_lower ho8 (below_size (bs HB.out)))
     replace BK307 := bb BK307 hb rfl
     replace BK308 := bb BK308 hb rfl
     replace HB := hs HB hb
     clear hb ho8
     refine hK.out _ _ ⟨(blk_cell BK307.out 0).trans rfl, (blk_cell BK307.out 1).trans rfl⟩ (fun hHeld => ?_)
     clear hK K
     refine nrm 7 ?_
     refine one_ (i := 0) (N := some 3) #[true, true, true, false, true, true, true, false, false, false] rfl rfl (one_of HT_.out (by kernel_rfl)) (by decide) (fun K hK => ?_)
     refine Kd.R_lit_step k36 _ 36 ?hg (N := 3) ?hd (xs := ([] : List (S36))) (inner := []) (ok := fun _ => True) (okp := fun _ => True) ?hr ?hp (fun _ hk => hk) trivial (Below.refl _ _) (Nat.le_refl _) (by simp) ?_; (case hd => rfl); (case hg => rfl); (case hr => first | (go_simp; done) | (go_simp; rfl)); (case hp => exact (Reps.none _ _))
     intro v310 w9 ho10 hb hg_ hnew_
     clear hg_ hnew_
     (first | rw [← Ny309.out] at ho10 | (simp only [Int.reduceToNat] at ho10; rw [← Ny309.out] at ho10))
     replace HO317 := rb HO317 hb
     have HO311 := Aside0.mk (Kd.R_lower ho10 (below_size (bs HB.out)))
     replace BK307 := bb BK307 hb rfl
     replace BK308 := bb BK308 hb rfl
     replace HB := hs HB hb
     clear hb ho10
     refine hK.out _ _ ⟨(blk_cell BK307.out 0).trans rfl, (blk_cell BK307.out 1).trans rfl⟩ (fun hHeld => ?_)
     clear hK K
     refine nrm 3 ?_
     refine one_ (i := 3) (N := some 6) #[true, true, true, true, true, true, true, false, false, false] rfl rfl (one_of HT_.out (by kernel_rfl)) (by decide) (fun K hK => ?_)
     refine Kd.R_append_rows_step k36 (w0 := w) w.heap.size (by rfl) (.tmp 3) (.tmp 5) 29 36 (.agg #[(.int .i64 0), (.int .i64 0)]) 16 rfl Try.underlying29 info36 rfl (by decide) (by omega) v310 y309 l0_0 _ _ _ (fun _ => True) (fun _ => False) rfl rfl ?aO ?aR (fun _ _ h => h) (fun _ h => h.elim) ?aF ?aB ?aS ?aL ?_
     (case aR => exact Kd.C_below HR0_0.out (bs HB.out))
     (case aB => exact (bs HB.out))
     (case aF => exact (fun _ _ => trivial))
     (case aO => exact (rl HO311.out))
     (case aS => exact (below_size (bs HB.out)))
     (case aL => have := LMc2.out; omega)
     intro v313 w11 ho hb hg hat
     rw [← Ny312.out] at ho
     replace BK307 := gr BK307 HO311 hg
     replace BK308 := gr BK308 HO311 hg
     replace HO317 := Aside0.mk (Kd.R_over' (rl HO317.out) (Kd.R_typed (rl HO311.out)) (by decide) hg)
     replace HB := Aside0.mk (hb)
     have HO314 := Aside0.mk (ho)
     clear HO311
     clear ho hb hg hat
     refine hK.out _ _ ⟨(blk_cell BK307.out 0).trans rfl, (blk_cell BK307.out 1).trans rfl⟩ (fun hHeld => ?_)
     clear hK K
     refine nrm 6 ?_
     exact norm_ (by simp only [putAll, Act.put, List.setIfInBounds_toArray, List.set_cons_zero, List.set_cons_succ]) (hCont (v310, v313, v316) _ ⟨hHeld, (rl HO314.out), (rl HO317.out), (bf BK307.out), (bf BK308.out), (bs HB.out)⟩)
   rintro ⟨v310, v313, v316⟩ w12 ⟨hS_, h0_, h1_, h2_, h3_, h4_⟩
   have n0_ : Aside0 (Kd.R k36 36 w12 w.heap.size (fun _ => True) v313 y312) := ⟨h0_⟩
   have n1_ : Aside0 (Kd.R k56 56 w12 w.heap.size (fun _ => True) v316 y315) := ⟨h1_⟩
   have n2_ : Aside0 (w12.heap[gb307]? = some (.cells #[.slice A0_0 l0_0.length c0_0, .slice A0_1 l0_1.length c0_1] 34 (0, 0))) := ⟨h2_⟩
   have n3_ : Aside0 (w12.heap[gb308]? = some (.cells #[.slice none 0 0, .slice none 0 0] 34 (0, 0))) := ⟨h3_⟩
   have n4_ : Aside0 (Below w.heap.size w w12) := ⟨h4_⟩
   clear BK307
   clear BK308
   clear HB
   clear h0_ h1_ h2_ h3_ h4_
   have HO314 := n0_
   have HO317 := n1_
   have BK307 := n2_
   have BK308 := n3_
   have HB := n4_
   clear n0_ n1_ n2_ n3_ n4_
   have hHeld : w12.cell? ⟨gb307, 0, none⟩ = some (.slice A0_0 l0_0.length c0_0) ∧ w12.cell? ⟨gb307, 1, none⟩ = some (.slice A0_1 l0_1.length c0_1) := hS_
   refine norm_ (a' := ?_) ?_ ?_
   rotate_left
   ·simp only [putAll, Act.put, List.setIfInBounds_toArray, List.set_cons_zero, List.set_cons_succ]
    rfl
   refine one_ (i := 7) (N := some 10) #[true, true, true, true, true, true, true, true, false, false] rfl rfl (one_of HT_.out (by kernel_rfl)) (by decide) (fun K hK => ?_)
   refine Kd.R_append_rows_step k56 (w0 := w) w.heap.size (by rfl) (.tmp 7) (.tmp 9) 32 56 (.agg #[(.int .i64 0), (.int .i64 0), (.int .i64 0), (.int .i64 0), (.int .i64 0)]) 40 rfl Try.underlying32 info56 rfl (by decide) (by omega) v316 y315 l0_1 _ _ _ (fun _ => True) (fun _ => False) rfl rfl ?aO ?aR (fun _ _ h => h) (fun _ h => h.elim) ?aF ?aB ?aS ?aL ?_
   (case aR => exact Kd.C_below HR0_1.out (bs HB.out))
   (case aB => exact (bs HB.out))
   (case aF => exact (fun _ _ => trivial))
   (case aO => exact (rl HO317.out))
   (case aS => exact (below_size (bs HB.out)))
   (case aL => have := LMc3.out; omega)
   intro v319 w13 ho hb hg hat
   rw [← Ny318.out] at ho
   replace BK307 := gr BK307 HO317 hg
   replace BK308 := gr BK308 HO317 hg
   replace HO314 := Aside0.mk (Kd.R_over' (rl HO314.out) (Kd.R_typed (rl HO317.out)) (by decide) hg)
   replace HB := Aside0.mk (hb)
   have HO320 := Aside0.mk (ho)
   clear HO317
   clear ho hb hg hat
   obtain ⟨Ao14, co14, eo14⟩ := Kd.R_slice HO320.out
   (first | subst eo14 | (injection eo14 with f1_ f2_ f3_; have f4_ := f1_.symm; have f5_ := f3_.symm; clear f1_ f2_ f3_; subst f4_; subst f5_))
   obtain ⟨Ao15, co15, eo15⟩ := Kd.R_slice HO314.out
   (first | subst eo15 | (injection eo15 with f1_ f2_ f3_; have f4_ := f1_.symm; have f5_ := f3_.symm; clear f1_ f2_ f3_; subst f4_; subst f5_))
   refine hK.out _ _ ⟨(blk_cell BK307.out 0).trans rfl, (blk_cell BK307.out 1).trans rfl⟩ (fun hHeld => ?_)
   clear hK K
   refine nrm 10 ?_
   refine pu 8 11 ?_
   refine one_ (i := 9) (N := none) #[true, true, true, true, true, true, true, true, true, true] rfl rfl (one_of HT_.out (by kernel_rfl)) (by decide) (fun K hK => ?_)
   have hs16 : w13.cell? ⟨gb308, 0, none⟩ = some (.slice none 0 0) := (blk_cell BK308.out 0).trans rfl
   have hfs16 := blk_frozen BK308.out 0
   have hns16_0 := NB307_308.out
   have hms16_0 := NB308_307.out
   have hs17 : w13.cell? ⟨gb308, 1, none⟩ = some (.slice none 0 0) := (blk_cell BK308.out 1).trans rfl
   have hfs17 := blk_frozen BK308.out 1
   have hns17_0 := NB307_308.out
   have hms17_0 := NB308_307.out
   refine skip_ (w1 := ?_) (by rfl) rfl ?_ ?_
   rotate_left
   ·go_simp
    rfl
   refine hK.out _ _ ⟨((cell_far (p := ⟨gb308, _, none⟩) NB307_308.out _).trans (((cell_far (p := ⟨gb308, _, none⟩) NB307_308.out _).trans (hHeld.1)))), ((cell_far (p := ⟨gb308, _, none⟩) NB307_308.out _).trans (((cell_far (p := ⟨gb308, _, none⟩) NB307_308.out _).trans (hHeld.2))))⟩ (fun hHeld => ?_)
   clear hK K
   refine done_ (done_of HT_.out (by kernel_rfl)) ?_
   try go_wp2
   refine bodyPost_ret (results_cell_row rfl _ _ gb308 34 #[.slice Ao15 y312.length co15, .slice Ao14 y318.length co14] (0, 0) _ rfl (bp BK308.out rfl) Try.underlying34 rfl (by kernel_rfl)) rfl ?_
   exact ⟨_, _, eqr, Kd.R_mono (rt HO314.out BK308.out (by decide)) (fun _ hk => trivial), Kd.R_mono (rt HO320.out BK308.out (by decide)) (fun _ hk => trivial), bs HB.out⟩
  ·rw [if_neg c3] at H
   exact absurd H (by simp)
 ·rw [if_neg c2] at H
  exact absurd H (by simp)

end Go.Proofs.Ytohmemckdogljaa.QFnGraphView
