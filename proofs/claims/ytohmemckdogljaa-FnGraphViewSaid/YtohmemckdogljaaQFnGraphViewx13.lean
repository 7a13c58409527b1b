/- Contracts of the Go functions that this law reaches: each does what its plain Lean function says. No condition. -/
import Derived.Test.YtohmemckdogljaaQFnGraphViewx0
import Derived.Test.YtohmemckdogljaaQFnGraphViewx3
import Derived.Test.YtohmemckdogljaaQFnGraphViewx12
namespace Go.Proofs.Ytohmemckdogljaa.QFnGraphView
open Go.RowKit Go.Proofs.YtohmemckdogljaaW.PrintWords Go.Proofs.YtohmemckdogljaaW.PrintLast Go.Proofs.YtohmemckdogljaaW.PrintMore Go.Proofs.Ytohmemckdogljaa.Bl
attribute [local go_sem] max2_int min2_int max_two min_two max_three min_three max_four min_four   -- for this text's walks alone
set_option linter.unusedVariables false
set_option linter.unusedSimpArgs false
set_option maxHeartbeats 8000000
set_option maxRecDepth 100000

/-! ### spec_l2Ends: function 123 -/
mutual
def spec_l2Ends.j0 : Nat → Bool → Bool → Bool → List (S36) → List (S56) → Int → Int → Int → Int → Int → Int → Int → Int → Option (Int)
 | 0, _, _, _, _, _, _, _, _, _, _, _, _, _ => none
 | k + 1, x5, x6, x7, x369000, x369001, x370000, x370001, x370002, x370003, x370004, x370005, x370006, x370007 => if x370000 = 1 then (if x5 = true then (spec_l2Ends.j1 k x5 x6 x7 true x369000 x369001 x370000 x370001 x370002 x370003 x370004 x370005 x370006 x370007) else (if x370000 = 2 then (spec_l2Ends.j1 k x5 x6 x7 x6 x369000 x369001 x370000 x370001 x370002 x370003 x370004 x370005 x370006 x370007) else (spec_l2Ends.j1 k x5 x6 x7 false x369000 x369001 x370000 x370001 x370002 x370003 x370004 x370005 x370006 x370007))) else (if x370000 = 2 then (spec_l2Ends.j1 k x5 x6 x7 x6 x369000 x369001 x370000 x370001 x370002 x370003 x370004 x370005 x370006 x370007) else (spec_l2Ends.j1 k x5 x6 x7 false x369000 x369001 x370000 x370001 x370002 x370003 x370004 x370005 x370006 x370007))
def spec_l2Ends.j1 : Nat → Bool → Bool → Bool → Bool → List (S36) → List (S56) → Int → Int → Int → Int → Int → Int → Int → Int → Option (Int)
 | 0, _, _, _, _, _, _, _, _, _, _, _, _, _, _ => none
 | k + 1, x5, x6, x7, x32, x369000, x369001, x370000, x370001, x370002, x370003, x370004, x370005, x370006, x370007 => if x32 = true then (some 2) else (if x370000 = 4 then (if x5 = true then (if x370000 = 3 then (if x6 = true then (if x370000 = 2 then (spec_l2Ends.j2 k (!x7) x369000 x369001 x370000 x370001 x370002 x370003 x370004 x370005 x370006 x370007) else (spec_l2Ends.j2 k false x369000 x369001 x370000 x370001 x370002 x370003 x370004 x370005 x370006 x370007)) else (spec_l2Ends.j2 k true x369000 x369001 x370000 x370001 x370002 x370003 x370004 x370005 x370006 x370007)) else (if x370000 = 2 then (spec_l2Ends.j2 k (!x7) x369000 x369001 x370000 x370001 x370002 x370003 x370004 x370005 x370006 x370007) else (spec_l2Ends.j2 k false x369000 x369001 x370000 x370001 x370002 x370003 x370004 x370005 x370006 x370007))) else (spec_l2Ends.j2 k true x369000 x369001 x370000 x370001 x370002 x370003 x370004 x370005 x370006 x370007)) else (if x370000 = 3 then (if x6 = true then (if x370000 = 2 then (spec_l2Ends.j2 k (!x7) x369000 x369001 x370000 x370001 x370002 x370003 x370004 x370005 x370006 x370007) else (spec_l2Ends.j2 k false x369000 x369001 x370000 x370001 x370002 x370003 x370004 x370005 x370006 x370007)) else (spec_l2Ends.j2 k true x369000 x369001 x370000 x370001 x370002 x370003 x370004 x370005 x370006 x370007)) else (if x370000 = 2 then (spec_l2Ends.j2 k (!x7) x369000 x369001 x370000 x370001 x370002 x370003 x370004 x370005 x370006 x370007) else (spec_l2Ends.j2 k false x369000 x369001 x370000 x370001 x370002 x370003 x370004 x370005 x370006 x370007))))
def spec_l2Ends.j2 : Nat → Bool → List (S36) → List (S56) → Int → Int → Int → Int → Int → Int → Int → Int → Option (Int)
 | 0, _, _, _, _, _, _, _, _, _, _, _ => none
 | k + 1, x47, x369000, x369001, x370000, x370001, x370002, x370003, x370004, x370005, x370006, x370007 => if x47 = true then (some 3) else (if x370000 = 1 then ((spec_l2Nodes.f k x369000 x369001 x370001).bind fun t374 => (if t374 ≥ 5 then (some 4) else (if x370000 = 2 then ((spec_l2Edges.f k x369000 x369001 x370003).bind fun t375 => (if t375 ≥ 7 then (some 4) else (some 0))) else (some 0)))) else (if x370000 = 2 then ((spec_l2Edges.f k x369000 x369001 x370003).bind fun t376 => (if t376 ≥ 7 then (some 4) else (some 0))) else (some 0)))
end
def spec_l2Ends.f (k : Nat) (l0_0 : List (S36)) (l0_1 : List (S56)) (a1_0 : Int) (a1_1 : Int) (a1_2 : Int) (a1_3 : Int) (a1_4 : Int) (a1_5 : Int) (a1_6 : Int) (a1_7 : Int) : Option (Int) := (spec_l2At.f k l0_0 l0_1 a1_1 a1_2).bind fun t370 => ((spec_l2EdgeAt.f k l0_0 l0_1 a1_3 a1_4 a1_5 a1_6 a1_7).bind fun t371 => ((spec_l2At.f k l0_0 l0_1 a1_4 a1_5).bind fun t372 => (if t372 ≥ 0 then ((spec_l2At.f k l0_0 l0_1 a1_6 a1_7).bind fun t373 => (spec_l2Ends.j0 k (decide (t370 ≥ 0)) (decide (t371 ≥ 0)) (decide (t373 ≥ 0)) l0_0 l0_1 a1_0 a1_1 a1_2 a1_3 a1_4 a1_5 a1_6 a1_7)) else (spec_l2Ends.j0 k (decide (t370 ≥ 0)) (decide (t371 ≥ 0)) false l0_0 l0_1 a1_0 a1_1 a1_2 a1_3 a1_4 a1_5 a1_6 a1_7))))
theorem spec_l2Ends.calls (k : Nat) (A0_0 : Option Addr) (c0_0 : Nat) (l0_0 : List (S36)) (A0_1 : Option Addr) (c0_1 : Nat) (l0_1 : List (S56)) (a1_0 : Int) (a1_1 : Int) (a1_2 : Int) (a1_3 : Int) (a1_4 : Int) (a1_5 : Int) (a1_6 : Int) (a1_7 : Int) (r : Int) (w : World) (hr0_0 : Kd.C k36 w A0_0 l0_0.length l0_0) (hc0_0 : l0_0.length ≤ c0_0) (hr0_1 : Kd.C k56 w A0_1 l0_1.length l0_1) (hc0_1 : l0_1.length ≤ c0_1) (h : spec_l2Ends.f k l0_0 l0_1 a1_0 a1_1 a1_2 a1_3 a1_4 a1_5 a1_6 a1_7 = some r) :
  Calls Try.prog 123 #[.agg #[.slice A0_0 l0_0.length c0_0, .slice A0_1 l0_1.length c0_1], .agg #[.int .i64 a1_0, .int .i64 a1_1, .int .i64 a1_2, .int .i64 a1_3, .int .i64 a1_4, .int .i64 a1_5, .int .i64 a1_6, .int .i64 a1_7]] w fun e w' => e = .returned (.int .i64 r) ∧ Below w.heap.size w w' := by
 have hu34 := Try.underlying34
 have hu58 := Try.underlying58
 have hu36 := Try.underlying36
 have hu56 := Try.underlying56
 have HR0_0 := Aside0.mk hr0_0
 have HC0_0 := Aside0.mk hc0_0
 clear hr0_0 hc0_0
 have HR0_1 := Aside0.mk hr0_1
 have HC0_1 := Aside0.mk hc0_1
 clear hr0_1 hc0_1
 have HB := Aside0.mk (Below.refl w.heap.size w)
 have H := h; unfold spec_l2Ends.f at H
 clear h
 replace H := Option.bind_eq_some_iff.mp H
 obtain ⟨t370, A30, H⟩ := H
 try dsimp -simprocs only at H
 have A3 := Aside0.mk A30
 clear A30
 replace H := Option.bind_eq_some_iff.mp H
 obtain ⟨t371, A40, H⟩ := H
 try dsimp -simprocs only at H
 have A4 := Aside0.mk A40
 clear A40
 have HC5 := Aside0.mk H
 clear H
 go_enter Try.func123, Try.ntmps123
 go_upto_region 3 with (first | ((with_reducible refine gd 2 rfl ?_); refine bx 2 (cs := #[.slice A0_0 l0_0.length c0_0, .slice A0_1 l0_1.length c0_1]) (t := 34) ?_; intro gb368 hg w6 hbox hb; have BK368 := Aside0.mk (hbox); have GW368 := gwb HB hg; replace HB := hs HB hb; clear hb hbox hg) | ((with_reducible refine gd 3 rfl ?_); refine bx 3 (cs := #[.int .i64 a1_0, .int .i64 a1_1, .int .i64 a1_2, .int .i64 a1_3, .int .i64 a1_4, .int .i64 a1_5, .int .i64 a1_6, .int .i64 a1_7]) (t := 58) ?_; intro gb369 hg w7 hbox hb; have BK369 := Aside0.mk (hbox); have GW369 := gwb HB hg; replace HB := hs HB hb; have NB368_369 := nq BK368 hg; have NB369_368 := nq' BK368 hg; replace BK368 := bb BK368 hb rfl; clear hb hbox hg; have hnb8 := NB368_369.out; have hnc8 := NB369_368.out; obtain ⟨hcz9_0, hcz9_1⟩ := bc2 (w := w7) BK368.out; have hfz9 := blk_frozen BK368.out; obtain ⟨hcz10_0, hcz10_1, hcz10_2, hcz10_3, hcz10_4, hcz10_5, hcz10_6, hcz10_7⟩ := bc8 (w := w7) BK369.out; have hfz10 := blk_frozen BK369.out) | ((with_reducible refine gc 62 rfl ?_); refine gl 11 Try.func62 #[.agg #[.slice A0_0 l0_0.length c0_0, .slice A0_1 l0_1.length c0_1], .agg #[.int .i64 a1_1, .int .i64 a1_2]] ?_; (with_reducible refine (spec_l2At.calls k _ _ l0_0 _ _ l0_1 a1_1 a1_2 t370 _ ?side1 ?side2 ?side3 ?side4 A3.out).mono ?_); (case side1 => exact Kd.C_below HR0_0.out (bs HB.out)); (case side2 => exact HC0_0.out); (case side3 => exact Kd.C_below HR0_1.out (bs HB.out)); (case side4 => exact HC0_1.out); rintro e w11 ⟨rfl, hb⟩; refine ⟨_, rfl, ?_⟩; replace BK368 := bb BK368 hb rfl; replace BK369 := bb BK369 hb rfl; replace HB := hs HB hb; (try clear hb); obtain ⟨hcz12_0, hcz12_1⟩ := bc2 (w := w11) BK368.out; have hfz12 := blk_frozen BK368.out; obtain ⟨hcz13_0, hcz13_1, hcz13_2, hcz13_3, hcz13_4, hcz13_5, hcz13_6, hcz13_7⟩ := bc8 (w := w11) BK369.out; have hfz13 := blk_frozen BK369.out) | ((with_reducible refine gc 144 rfl ?_); refine gl 16 Try.func144 #[.agg #[.slice A0_0 l0_0.length c0_0, .slice A0_1 l0_1.length c0_1], .agg #[.int .i64 a1_3, .int .i64 a1_4, .int .i64 a1_5, .int .i64 a1_6, .int .i64 a1_7]] ?_; (with_reducible refine (spec_l2EdgeAt.calls k _ _ l0_0 _ _ l0_1 a1_3 a1_4 a1_5 a1_6 a1_7 t371 _ ?side1 ?side2 ?side3 ?side4 A4.out).mono ?_); (case side1 => exact Kd.C_below HR0_0.out (bs HB.out)); (case side2 => exact HC0_0.out); (case side3 => exact Kd.C_below HR0_1.out (bs HB.out)); (case side4 => exact HC0_1.out); rintro e w14 ⟨rfl, hb⟩; refine ⟨_, rfl, ?_⟩; replace BK368 := bb BK368 hb rfl; replace BK369 := bb BK369 hb rfl; replace HB := hs HB hb; (try clear hb)))
 (try simp only [Act.put, List.setIfInBounds_toArray, List.set_cons_zero, List.set_cons_succ])
 go_cut [7] (fun v7 wc => ∃ (kq : Nat) (x7_4 : Bool), v7 = .bool x7_4 ∧ Aside0 (spec_l2Ends.j0 kq (decide (t370 ≥ 0)) (decide (t371 ≥ 0)) x7_4 l0_0 l0_1 a1_0 a1_1 a1_2 a1_3 a1_4 a1_5 a1_6 a1_7 = some r) ∧ Aside0 (kq ≤ k) ∧ Aside0 (wc.heap[gb368]? = some (.cells #[(.slice A0_0 l0_0.length c0_0), (.slice A0_1 l0_1.length c0_1)] 34 (0, 0))) ∧ Aside0 (wc.heap[gb369]? = some (.cells #[.int .i64 a1_0, .int .i64 a1_1, .int .i64 a1_2, .int .i64 a1_3, .int .i64 a1_4, .int .i64 a1_5, .int .i64 a1_6, .int .i64 a1_7] 58 (0, 0))) ∧ Aside0 (Below w.heap.size w wc))
 case first =>
  have H := HC5.out
  clear HC5
  replace H := Option.bind_eq_some_iff.mp H
  obtain ⟨t372, A150, H⟩ := H
  try dsimp -simprocs only at H
  have A15 := Aside0.mk A150
  clear A150
  by_cases c16 : t372 ≥ 0
  ·rw [if_pos c16] at H
   have c16b0 : decide (0 ≤ t372) = true := decide_eq_true c16
   clear c16
   (first | rw [c16b0] | (simp only [i64_w, i32_w]; rw [c16b0]) | skip)
   replace H := Option.bind_eq_some_iff.mp H
   obtain ⟨t373, A170, H⟩ := H
   try dsimp -simprocs only at H
   have A17 := Aside0.mk A170
   clear A170
   have H' := Aside0.mk H
   clear H
   have hnb18 := NB368_369.out
   have hnc18 := NB369_368.out
   obtain ⟨hcz19_0, hcz19_1⟩ := bc2 (w := w14) BK368.out
   have hfz19 := blk_frozen BK368.out
   obtain ⟨hcz20_0, hcz20_1, hcz20_2, hcz20_3, hcz20_4, hcz20_5, hcz20_6, hcz20_7⟩ := bc8 (w := w14) BK369.out
   have hfz20 := blk_frozen BK369.out
   go_wp2_with (first | ((with_reducible refine gc 62 rfl ?_); refine gl 22 Try.func62 #[.agg #[.slice A0_0 l0_0.length c0_0, .slice A0_1 l0_1.length c0_1], .agg #[.int .i64 a1_4, .int .i64 a1_5]] ?_; (with_reducible refine (spec_l2At.calls k _ _ l0_0 _ _ l0_1 a1_4 a1_5 t372 _ ?side1 ?side2 ?side3 ?side4 A15.out).mono ?_); (case side1 => exact Kd.C_below HR0_0.out (bs HB.out)); (case side2 => exact HC0_0.out); (case side3 => exact Kd.C_below HR0_1.out (bs HB.out)); (case side4 => exact HC0_1.out); rintro e w21 ⟨rfl, hb⟩; refine ⟨_, rfl, ?_⟩; replace BK368 := bb BK368 hb rfl; replace BK369 := bb BK369 hb rfl; replace HB := hs HB hb; (try clear hb); obtain ⟨hcz22_0, hcz22_1⟩ := bc2 (w := w21) BK368.out; have hfz22 := blk_frozen BK368.out; obtain ⟨hcz23_0, hcz23_1, hcz23_2, hcz23_3, hcz23_4, hcz23_5, hcz23_6, hcz23_7⟩ := bc8 (w := w21) BK369.out; have hfz23 := blk_frozen BK369.out) | (go_at_call 62; (with_reducible refine (spec_l2At.calls k _ _ l0_0 _ _ l0_1 a1_6 a1_7 t373 _ ?side1 ?side2 ?side3 ?side4 A17.out).mono ?_); (case side1 => exact Kd.C_below HR0_0.out (bs HB.out)); (case side2 => exact HC0_0.out); (case side3 => exact Kd.C_below HR0_1.out (bs HB.out)); (case side4 => exact HC0_1.out); rintro e w24 ⟨rfl, hb⟩; replace BK368 := bb BK368 hb rfl; replace BK369 := bb BK369 hb rfl; replace HB := hs HB hb; (try clear hb)))
   go_meet
   case rel => exact ⟨_, (decide (t373 ≥ 0)), eqs, H', ⟨by first | omega | exact Nat.le_refl _⟩, ⟨bf BK368.out⟩, ⟨bf BK369.out⟩, ⟨bs HB.out⟩⟩
  ·rw [if_neg c16] at H
   have c16b0 : decide (0 ≤ t372) = false := decide_eq_false c16
   clear c16
   (first | rw [c16b0] | (simp only [i64_w, i32_w]; rw [c16b0]) | skip)
   have H' := Aside0.mk H
   clear H
   have hnb25 := NB368_369.out
   have hnc25 := NB369_368.out
   obtain ⟨hcz26_0, hcz26_1⟩ := bc2 (w := w14) BK368.out
   have hfz26 := blk_frozen BK368.out
   obtain ⟨hcz27_0, hcz27_1, hcz27_2, hcz27_3, hcz27_4, hcz27_5, hcz27_6, hcz27_7⟩ := bc8 (w := w14) BK369.out
   have hfz27 := blk_frozen BK369.out
   go_wp2_with (first | ((with_reducible refine gc 62 rfl ?_); refine gl 22 Try.func62 #[.agg #[.slice A0_0 l0_0.length c0_0, .slice A0_1 l0_1.length c0_1], .agg #[.int .i64 a1_4, .int .i64 a1_5]] ?_; (with_reducible refine (spec_l2At.calls k _ _ l0_0 _ _ l0_1 a1_4 a1_5 t372 _ ?side1 ?side2 ?side3 ?side4 A15.out).mono ?_); (case side1 => exact Kd.C_below HR0_0.out (bs HB.out)); (case side2 => exact HC0_0.out); (case side3 => exact Kd.C_below HR0_1.out (bs HB.out)); (case side4 => exact HC0_1.out); rintro e w28 ⟨rfl, hb⟩; refine ⟨_, rfl, ?_⟩; replace BK368 := bb BK368 hb rfl; replace BK369 := bb BK369 hb rfl; replace HB := hs HB hb; (try clear hb)))
   go_meet
   case rel => exact ⟨_, (false), eqs, H', ⟨by first | omega | exact Nat.le_refl _⟩, ⟨bf BK368.out⟩, ⟨bf BK369.out⟩, ⟨bs HB.out⟩⟩
 case rest =>
  clear HC5
  try clear c1
  try clear c2
  try clear p2
  try clear c6
  try clear c8
  try clear c12
  try clear c14
  try clear c16
  try clear c16b0
  try clear c18
  try clear c25
  try clear hcz10_0 hcz10_1 hcz10_2 hcz10_3 hcz10_4 hcz10_5 hcz10_6 hcz10_7
  try clear hcz12_0 hcz12_1
  try clear hcz13_0 hcz13_1 hcz13_2 hcz13_3 hcz13_4 hcz13_5 hcz13_6 hcz13_7
  try clear hcz19_0 hcz19_1
  try clear hcz20_0 hcz20_1 hcz20_2 hcz20_3 hcz20_4 hcz20_5 hcz20_6 hcz20_7
  try clear hcz22_0 hcz22_1
  try clear hcz23_0 hcz23_1 hcz23_2 hcz23_3 hcz23_4 hcz23_5 hcz23_6 hcz23_7
  try clear hcz26_0 hcz26_1
  try clear hcz27_0 hcz27_1 hcz27_2 hcz27_3 hcz27_4 hcz27_5 hcz27_6 hcz27_7
  try clear hcz9_0 hcz9_1
  try clear hfz10
  try clear hfz12
  try clear hfz13
  try clear hfz19
  try clear hfz20
  try clear hfz22
  try clear hfz23
  try clear hfz26
  try clear hfz27
  try clear hfz9
  obtain ⟨kq, x7_4, rfl, HA, HJ4, BK368, BK369, HB⟩ := hcut
  cases kq with
  | zero => exact absurd HA.out (by simp [spec_l2Ends.j0])
  | succ kj4 =>
   have H := HA.out
   clear HA
   simp only [spec_l2Ends.j0] at H
   have HC29 := Aside0.mk H
   clear H
   go_upto_region 4 with (fail)
   go_cut [32] (fun v32 wc => ∃ (kq : Nat) (x32_28 : Bool), v32 = .bool x32_28 ∧ Aside0 (spec_l2Ends.j1 kq (decide (t370 ≥ 0)) (decide (t371 ≥ 0)) x7_4 x32_28 l0_0 l0_1 a1_0 a1_1 a1_2 a1_3 a1_4 a1_5 a1_6 a1_7 = some r) ∧ Aside0 (kq ≤ kj4) ∧ Aside0 (wc.heap[gb368]? = some (.cells #[(.slice A0_0 l0_0.length c0_0), (.slice A0_1 l0_1.length c0_1)] 34 (0, 0))) ∧ Aside0 (wc.heap[gb369]? = some (.cells #[.int .i64 a1_0, .int .i64 a1_1, .int .i64 a1_2, .int .i64 a1_3, .int .i64 a1_4, .int .i64 a1_5, .int .i64 a1_6, .int .i64 a1_7] 58 (0, 0))) ∧ Aside0 (Below w.heap.size w wc))
   case first =>
    have H := HC29.out
    clear HC29
    by_cases c30 : a1_0 = 1
    ·rw [if_pos c30] at H
     have c30b0 : (a1_0 == 1) = true := beq_iff_eq.mpr c30
     have c30b1 : (a1_0 != 1) = false := bne_eq_false_iff_eq.mpr c30
     clear c30
     (first | rw [c30b0] | (simp only [i64_w, i32_w]; rw [c30b0]) | skip)
     by_cases c31 : (decide (t370 ≥ 0)) = true
     ·rw [if_pos c31] at H
      have c31b0 : (decide (t370 ≥ 0)) = true := c31
      clear c31
      have H' := Aside0.mk H
      clear H
      have hnb32 := NB369_368.out
      have hnc32 := NB368_369.out
      obtain ⟨hcz33_0, hcz33_1, hcz33_2, hcz33_3, hcz33_4, hcz33_5, hcz33_6, hcz33_7⟩ := bc8 (w := wc) BK369.out
      have hfz33 := blk_frozen BK369.out
      go_wp2
      go_meet
      case rel => exact ⟨_, (true), eqs, H', ⟨by have := HJ4.out; first | omega | exact Nat.le_refl _⟩, ⟨bf BK368.out⟩, ⟨bf BK369.out⟩, ⟨bs HB.out⟩⟩
     ·rw [if_neg c31] at H
      have c31b0 : (decide (t370 ≥ 0)) = false := by simpa using c31
      clear c31
      by_cases c34 : a1_0 = 2
      ·rw [if_pos c34] at H
       have c34b0 : (a1_0 == 2) = true := beq_iff_eq.mpr c34
       have c34b1 : (a1_0 != 2) = false := bne_eq_false_iff_eq.mpr c34
       clear c34
       have H' := Aside0.mk H
       clear H
       have hnb35 := NB369_368.out
       have hnc35 := NB368_369.out
       obtain ⟨hcz36_0, hcz36_1, hcz36_2, hcz36_3, hcz36_4, hcz36_5, hcz36_6, hcz36_7⟩ := bc8 (w := wc) BK369.out
       have hfz36 := blk_frozen BK369.out
       go_wp2
       go_meet
       case rel => exact ⟨_, ((decide (t371 ≥ 0))), eqs, H', ⟨by have := HJ4.out; first | omega | exact Nat.le_refl _⟩, ⟨bf BK368.out⟩, ⟨bf BK369.out⟩, ⟨bs HB.out⟩⟩
      ·rw [if_neg c34] at H
       have c34b0 : (a1_0 == 2) = false := beq_eq_false_iff_ne.mpr c34
       have c34b1 : (a1_0 != 2) = true := bne_iff_ne.mpr c34
       have H' := Aside0.mk H
       clear H
       have hnb37 := NB369_368.out
       have hnc37 := NB368_369.out
       obtain ⟨hcz38_0, hcz38_1, hcz38_2, hcz38_3, hcz38_4, hcz38_5, hcz38_6, hcz38_7⟩ := bc8 (w := wc) BK369.out
       have hfz38 := blk_frozen BK369.out
       go_wp2
       go_meet
       case rel => exact ⟨_, (false), eqs, H', ⟨by have := HJ4.out; first | omega | exact Nat.le_refl _⟩, ⟨bf BK368.out⟩, ⟨bf BK369.out⟩, ⟨bs HB.out⟩⟩
    ·rw [if_neg c30] at H
     have c30b0 : (a1_0 == 1) = false := beq_eq_false_iff_ne.mpr c30
     have c30b1 : (a1_0 != 1) = true := bne_iff_ne.mpr c30
     (first | rw [c30b0] | (simp only [i64_w, i32_w]; rw [c30b0]) | skip)
     by_cases c39 : a1_0 = 2
     ·rw [if_pos c39] at H
      have c39b0 : (a1_0 == 2) = true := beq_iff_eq.mpr c39
      have c39b1 : (a1_0 != 2) = false := bne_eq_false_iff_eq.mpr c39
      clear c39
      have H' := Aside0.mk H
      clear H
      have hnb40 := NB369_368.out
      have hnc40 := NB368_369.out
      obtain ⟨hcz41_0, hcz41_1, hcz41_2, hcz41_3, hcz41_4, hcz41_5, hcz41_6, hcz41_7⟩ := bc8 (w := wc) BK369.out
      have hfz41 := blk_frozen BK369.out
      go_wp2
      go_meet
      case rel => exact ⟨_, ((decide (t371 ≥ 0))), eqs, H', ⟨by have := HJ4.out; first | omega | exact Nat.le_refl _⟩, ⟨bf BK368.out⟩, ⟨bf BK369.out⟩, ⟨bs HB.out⟩⟩
     ·rw [if_neg c39] at H
      have c39b0 : (a1_0 == 2) = false := beq_eq_false_iff_ne.mpr c39
      have c39b1 : (a1_0 != 2) = true := bne_iff_ne.mpr c39
      have H' := Aside0.mk H
      clear H
      have hnb42 := NB369_368.out
      have hnc42 := NB368_369.out
      obtain ⟨hcz43_0, hcz43_1, hcz43_2, hcz43_3, hcz43_4, hcz43_5, hcz43_6, hcz43_7⟩ := bc8 (w := wc) BK369.out
      have hfz43 := blk_frozen BK369.out
      go_wp2
      go_meet
      case rel => exact ⟨_, (false), eqs, H', ⟨by have := HJ4.out; first | omega | exact Nat.le_refl _⟩, ⟨bf BK368.out⟩, ⟨bf BK369.out⟩, ⟨bs HB.out⟩⟩
   case rest =>
    clear HC29
    try clear c1
    try clear c2
    try clear p2
    try clear c3
    try clear c4
    try clear c6
    try clear c8
    try clear c12
    try clear c14
    try clear c16
    try clear c16b0
    try clear c18
    try clear c25
    try clear c30
    try clear c30b0
    try clear c30b1
    try clear c31
    try clear c31b0
    try clear c32
    try clear c34
    try clear c34b0
    try clear c34b1
    try clear c35
    try clear c37
    try clear c39
    try clear c39b0
    try clear c39b1
    try clear c40
    try clear c42
    try clear hcz10_0 hcz10_1 hcz10_2 hcz10_3 hcz10_4 hcz10_5 hcz10_6 hcz10_7
    try clear hcz12_0 hcz12_1
    try clear hcz13_0 hcz13_1 hcz13_2 hcz13_3 hcz13_4 hcz13_5 hcz13_6 hcz13_7
    try clear hcz19_0 hcz19_1
    try clear hcz20_0 hcz20_1 hcz20_2 hcz20_3 hcz20_4 hcz20_5 hcz20_6 hcz20_7
    try clear hcz22_0 hcz22_1
    try clear hcz23_0 hcz23_1 hcz23_2 hcz23_3 hcz23_4 hcz23_5 hcz23_6 hcz23_7
    try clear hcz26_0 hcz26_1
    try clear hcz27_0 hcz27_1 hcz27_2 hcz27_3 hcz27_4 hcz27_5 hcz27_6 hcz27_7
    try clear hcz33_0 hcz33_1 hcz33_2 hcz33_3 hcz33_4 hcz33_5 hcz33_6 hcz33_7
    try clear hcz36_0 hcz36_1 hcz36_2 hcz36_3 hcz36_4 hcz36_5 hcz36_6 hcz36_7
    try clear hcz38_0 hcz38_1 hcz38_2 hcz38_3 hcz38_4 hcz38_5 hcz38_6 hcz38_7
    try clear hcz41_0 hcz41_1 hcz41_2 hcz41_3 hcz41_4 hcz41_5 hcz41_6 hcz41_7
    try clear hcz43_0 hcz43_1 hcz43_2 hcz43_3 hcz43_4 hcz43_5 hcz43_6 hcz43_7
    try clear hcz9_0 hcz9_1
    try clear hfz10
    try clear hfz12
    try clear hfz13
    try clear hfz19
    try clear hfz20
    try clear hfz22
    try clear hfz23
    try clear hfz26
    try clear hfz27
    try clear hfz33
    try clear hfz36
    try clear hfz38
    try clear hfz41
    try clear hfz43
    try clear hfz9
    try clear p2
    obtain ⟨kq, x32_28, rfl, HA, HJ28, BK368, BK369, HB⟩ := hcut
    cases kq with
    | zero => exact absurd HA.out (by simp [spec_l2Ends.j1])
    | succ kj28 =>
     have H := HA.out
     clear HA
     simp only [spec_l2Ends.j1] at H
     by_cases c44 : x32_28 = true
     ·subst c44
      have H1 : (some 2) = some r := by rw [if_pos rfl] at H; exact H
      clear H
      have H := H1
      clear H1
      obtain rfl := Option.some.inj H
      go_wp2
      go_ret
      exact ⟨eqr, bs HB.out⟩
     ·replace c44 := Bool.eq_false_iff.mpr c44
      subst c44
      have H1 : (if a1_0 = 4 then (if (decide (t370 ≥ 0)) = true then (if a1_0 = 3 then (if (decide (t371 ≥ 0)) = true then (if a1_0 = 2 then (spec_l2Ends.j2 kj28 (!x7_4) l0_0 l0_1 a1_0 a1_1 a1_2 a1_3 a1_4 a1_5 a1_6 a1_7) else (spec_l2Ends.j2 kj28 false l0_0 l0_1 a1_0 a1_1 a1_2 a1_3 a1_4 a1_5 a1_6 a1_7)) else (spec_l2Ends.j2 kj28 true l0_0 l0_1 a1_0 a1_1 a1_2 a1_3 a1_4 a1_5 a1_6 a1_7)) else (if a1_0 = 2 then (spec_l2Ends.j2 kj28 (!x7_4) l0_0 l0_1 a1_0 a1_1 a1_2 a1_3 a1_4 a1_5 a1_6 a1_7) else (spec_l2Ends.j2 kj28 false l0_0 l0_1 a1_0 a1_1 a1_2 a1_3 a1_4 a1_5 a1_6 a1_7))) else (spec_l2Ends.j2 kj28 true l0_0 l0_1 a1_0 a1_1 a1_2 a1_3 a1_4 a1_5 a1_6 a1_7)) else (if a1_0 = 3 then (if (decide (t371 ≥ 0)) = true then (if a1_0 = 2 then (spec_l2Ends.j2 kj28 (!x7_4) l0_0 l0_1 a1_0 a1_1 a1_2 a1_3 a1_4 a1_5 a1_6 a1_7) else (spec_l2Ends.j2 kj28 false l0_0 l0_1 a1_0 a1_1 a1_2 a1_3 a1_4 a1_5 a1_6 a1_7)) else (spec_l2Ends.j2 kj28 true l0_0 l0_1 a1_0 a1_1 a1_2 a1_3 a1_4 a1_5 a1_6 a1_7)) else (if a1_0 = 2 then (spec_l2Ends.j2 kj28 (!x7_4) l0_0 l0_1 a1_0 a1_1 a1_2 a1_3 a1_4 a1_5 a1_6 a1_7) else (spec_l2Ends.j2 kj28 false l0_0 l0_1 a1_0 a1_1 a1_2 a1_3 a1_4 a1_5 a1_6 a1_7)))) = some r := by rw [if_neg (show ¬ (false = true) by decide)] at H; exact H
      clear H
      have H := H1
      clear H1
      have HC45 := Aside0.mk H
      clear H
      go_upto_region 6 with (fail)
      go_cut [47] (fun v47 wc => ∃ (kq : Nat) (x47_44 : Bool), v47 = .bool x47_44 ∧ Aside0 (spec_l2Ends.j2 kq x47_44 l0_0 l0_1 a1_0 a1_1 a1_2 a1_3 a1_4 a1_5 a1_6 a1_7 = some r) ∧ Aside0 (kq ≤ kj28) ∧ Aside0 (wc.heap[gb368]? = some (.cells #[(.slice A0_0 l0_0.length c0_0), (.slice A0_1 l0_1.length c0_1)] 34 (0, 0))) ∧ Aside0 (wc.heap[gb369]? = some (.cells #[.int .i64 a1_0, .int .i64 a1_1, .int .i64 a1_2, .int .i64 a1_3, .int .i64 a1_4, .int .i64 a1_5, .int .i64 a1_6, .int .i64 a1_7] 58 (0, 0))) ∧ Aside0 (Below w.heap.size w wc))
      case first =>
       have H := HC45.out
       clear HC45
       by_cases c46 : a1_0 = 4
       ·rw [if_pos c46] at H
        have c46b0 : (a1_0 == 4) = true := beq_iff_eq.mpr c46
        have c46b1 : (a1_0 != 4) = false := bne_eq_false_iff_eq.mpr c46
        clear c46
        (first | rw [c46b0] | (simp only [i64_w, i32_w]; rw [c46b0]) | skip)
        by_cases c47 : (decide (t370 ≥ 0)) = true
        ·rw [if_pos c47] at H
         have c47b0 : (decide (t370 ≥ 0)) = true := c47
         clear c47
         by_cases c48 : a1_0 = 3
         ·rw [if_pos c48] at H
          have c48b0 : (a1_0 == 3) = true := beq_iff_eq.mpr c48
          have c48b1 : (a1_0 != 3) = false := bne_eq_false_iff_eq.mpr c48
          clear c48
          by_cases c49 : (decide (t371 ≥ 0)) = true
          ·rw [if_pos c49] at H
           have c49b0 : (decide (t371 ≥ 0)) = true := c49
           clear c49
           by_cases c50 : a1_0 = 2
           ·rw [if_pos c50] at H
            have c50b0 : (a1_0 == 2) = true := beq_iff_eq.mpr c50
            have c50b1 : (a1_0 != 2) = false := bne_eq_false_iff_eq.mpr c50
            clear c50
            have H' := Aside0.mk H
            clear H
            have hnb51 := NB369_368.out
            have hnc51 := NB368_369.out
            obtain ⟨hcz52_0, hcz52_1, hcz52_2, hcz52_3, hcz52_4, hcz52_5, hcz52_6, hcz52_7⟩ := bc8 (w := wc) BK369.out
            have hfz52 := blk_frozen BK369.out
            go_wp2
            go_meet
            case rel => exact ⟨_, (!x7_4), eqs, H', ⟨by have := HJ4.out; have := HJ28.out; first | omega | exact Nat.le_refl _⟩, ⟨bf BK368.out⟩, ⟨bf BK369.out⟩, ⟨bs HB.out⟩⟩
           ·rw [if_neg c50] at H
            have c50b0 : (a1_0 == 2) = false := beq_eq_false_iff_ne.mpr c50
            have c50b1 : (a1_0 != 2) = true := bne_iff_ne.mpr c50
            have H' := Aside0.mk H
            clear H
            have hnb53 := NB369_368.out
            have hnc53 := NB368_369.out
            obtain ⟨hcz54_0, hcz54_1, hcz54_2, hcz54_3, hcz54_4, hcz54_5, hcz54_6, hcz54_7⟩ := bc8 (w := wc) BK369.out
            have hfz54 := blk_frozen BK369.out
            go_wp2
            go_meet
            case rel => exact ⟨_, (false), eqs, H', ⟨by have := HJ4.out; have := HJ28.out; first | omega | exact Nat.le_refl _⟩, ⟨bf BK368.out⟩, ⟨bf BK369.out⟩, ⟨bs HB.out⟩⟩
          ·rw [if_neg c49] at H
           have c49b0 : (decide (t371 ≥ 0)) = false := by simpa using c49
           clear c49
           have H' := Aside0.mk H
           clear H
           have hnb55 := NB369_368.out
           have hnc55 := NB368_369.out
           obtain ⟨hcz56_0, hcz56_1, hcz56_2, hcz56_3, hcz56_4, hcz56_5, hcz56_6, hcz56_7⟩ := bc8 (w := wc) BK369.out
           have hfz56 := blk_frozen BK369.out
           go_wp2
           go_meet
           case rel => exact ⟨_, (true), eqs, H', ⟨by have := HJ4.out; have := HJ28.out; first | omega | exact Nat.le_refl _⟩, ⟨bf BK368.out⟩, ⟨bf BK369.out⟩, ⟨bs HB.out⟩⟩
         ·rw [if_neg c48] at H
          have c48b0 : (a1_0 == 3) = false := beq_eq_false_iff_ne.mpr c48
          have c48b1 : (a1_0 != 3) = true := bne_iff_ne.mpr c48
          by_cases c57 : a1_0 = 2
          ·rw [if_pos c57] at H
           have c57b0 : (a1_0 == 2) = true := beq_iff_eq.mpr c57
           have c57b1 : (a1_0 != 2) = false := bne_eq_false_iff_eq.mpr c57
           clear c57
           have H' := Aside0.mk H
           clear H
           have hnb58 := NB369_368.out
           have hnc58 := NB368_369.out
           obtain ⟨hcz59_0, hcz59_1, hcz59_2, hcz59_3, hcz59_4, hcz59_5, hcz59_6, hcz59_7⟩ := bc8 (w := wc) BK369.out
           have hfz59 := blk_frozen BK369.out
           go_wp2
           go_meet
           case rel => exact ⟨_, (!x7_4), eqs, H', ⟨by have := HJ4.out; have := HJ28.out; first | omega | exact Nat.le_refl _⟩, ⟨bf BK368.out⟩, ⟨bf BK369.out⟩, ⟨bs HB.out⟩⟩
          ·rw [if_neg c57] at H
           have c57b0 : (a1_0 == 2) = false := beq_eq_false_iff_ne.mpr c57
           have c57b1 : (a1_0 != 2) = true := bne_iff_ne.mpr c57
           have H' := Aside0.mk H
           clear H
           have hnb60 := NB369_368.out
           have hnc60 := NB368_369.out
           obtain ⟨hcz61_0, hcz61_1, hcz61_2, hcz61_3, hcz61_4, hcz61_5, hcz61_6, hcz61_7⟩ := bc8 (w := wc) BK369.out
           have hfz61 := blk_frozen BK369.out
           go_wp2
           go_meet
           case rel => exact ⟨_, (false), eqs, H', ⟨by have := HJ4.out; have := HJ28.out; first | omega | exact Nat.le_refl _⟩, ⟨bf BK368.out⟩, ⟨bf BK369.out⟩, ⟨bs HB.out⟩⟩
        ·rw [if_neg c47] at H
         have c47b0 : (decide (t370 ≥ 0)) = false := by simpa using c47
         clear c47
         have H' := Aside0.mk H
         clear H
         have hnb62 := NB369_368.out
         have hnc62 := NB368_369.out
         obtain ⟨hcz63_0, hcz63_1, hcz63_2, hcz63_3, hcz63_4, hcz63_5, hcz63_6, hcz63_7⟩ := bc8 (w := wc) BK369.out
         have hfz63 := blk_frozen BK369.out
         go_wp2
         go_meet
         case rel => exact ⟨_, (true), eqs, H', ⟨by have := HJ4.out; have := HJ28.out; first | omega | exact Nat.le_refl _⟩, ⟨bf BK368.out⟩, ⟨bf BK369.out⟩, ⟨bs HB.out⟩⟩
       ·rw [if_neg c46] at H
        have c46b0 : (a1_0 == 4) = false := beq_eq_false_iff_ne.mpr c46
        have c46b1 : (a1_0 != 4) = true := bne_iff_ne.mpr c46
        (first | rw [c46b0] | (simp only [i64_w, i32_w]; rw [c46b0]) | skip)
        by_cases c64 : a1_0 = 3
        ·rw [if_pos c64] at H
         have c64b0 : (a1_0 == 3) = true := beq_iff_eq.mpr c64
         have c64b1 : (a1_0 != 3) = false := bne_eq_false_iff_eq.mpr c64
         clear c64
         by_cases c65 : (decide (t371 ≥ 0)) = true
         ·rw [if_pos c65] at H
          have c65b0 : (decide (t371 ≥ 0)) = true := c65
          clear c65
          by_cases c66 : a1_0 = 2
          ·rw [if_pos c66] at H
           have c66b0 : (a1_0 == 2) = true := beq_iff_eq.mpr c66
           have c66b1 : (a1_0 != 2) = false := bne_eq_false_iff_eq.mpr c66
           clear c66
           have H' := Aside0.mk H
           clear H
           have hnb67 := NB369_368.out
           have hnc67 := NB368_369.out
           obtain ⟨hcz68_0, hcz68_1, hcz68_2, hcz68_3, hcz68_4, hcz68_5, hcz68_6, hcz68_7⟩ := bc8 (w := wc) BK369.out
           have hfz68 := blk_frozen BK369.out
           go_wp2
           go_meet
           case rel => exact ⟨_, (!x7_4), eqs, H', ⟨by have := HJ4.out; have := HJ28.out; first | omega | exact Nat.le_refl _⟩, ⟨bf BK368.out⟩, ⟨bf BK369.out⟩, ⟨bs HB.out⟩⟩
          ·rw [if_neg c66] at H
           have c66b0 : (a1_0 == 2) = false := beq_eq_false_iff_ne.mpr c66
           have c66b1 : (a1_0 != 2) = true := bne_iff_ne.mpr c66
           have H' := Aside0.mk H
           clear H
           have hnb69 := NB369_368.out
           have hnc69 := NB368_369.out
           obtain ⟨hcz70_0, hcz70_1, hcz70_2, hcz70_3, hcz70_4, hcz70_5, hcz70_6, hcz70_7⟩ := bc8 (w := wc) BK369.out
           have hfz70 := blk_frozen BK369.out
           go_wp2
           go_meet
           case rel => exact ⟨_, (false), eqs, H', ⟨by have := HJ4.out; have := HJ28.out; first | omega | exact Nat.le_refl _⟩, ⟨bf BK368.out⟩, ⟨bf BK369.out⟩, ⟨bs HB.out⟩⟩
         ·rw [if_neg c65] at H
          have c65b0 : (decide (t371 ≥ 0)) = false := by simpa using c65
          clear c65
          have H' := Aside0.mk H
          clear H
          have hnb71 := NB369_368.out
          have hnc71 := NB368_369.out
          obtain ⟨hcz72_0, hcz72_1, hcz72_2, hcz72_3, hcz72_4, hcz72_5, hcz72_6, hcz72_7⟩ := bc8 (w := wc) BK369.out
          have hfz72 := blk_frozen BK369.out
          go_wp2
          go_meet
          case rel => exact ⟨_, (true), eqs, H', ⟨by have := HJ4.out; have := HJ28.out; first | omega | exact Nat.le_refl _⟩, ⟨bf BK368.out⟩, ⟨bf BK369.out⟩, ⟨bs HB.out⟩⟩
        ·rw [if_neg c64] at H
         have c64b0 : (a1_0 == 3) = false := beq_eq_false_iff_ne.mpr c64
         have c64b1 : (a1_0 != 3) = true := bne_iff_ne.mpr c64
         by_cases c73 : a1_0 = 2
         ·rw [if_pos c73] at H
          have c73b0 : (a1_0 == 2) = true := beq_iff_eq.mpr c73
          have c73b1 : (a1_0 != 2) = false := bne_eq_false_iff_eq.mpr c73
          clear c73
          have H' := Aside0.mk H
          clear H
          have hnb74 := NB369_368.out
          have hnc74 := NB368_369.out
          obtain ⟨hcz75_0, hcz75_1, hcz75_2, hcz75_3, hcz75_4, hcz75_5, hcz75_6, hcz75_7⟩ := bc8 (w := wc) BK369.out
          have hfz75 := blk_frozen BK369.out
          go_wp2
          go_meet
          case rel => exact ⟨_, (!x7_4), eqs, H', ⟨by have := HJ4.out; have := HJ28.out; first | omega | exact Nat.le_refl _⟩, ⟨bf BK368.out⟩, ⟨bf BK369.out⟩, ⟨bs HB.out⟩⟩
         ·rw [if_neg c73] at H
          have c73b0 : (a1_0 == 2) = false := beq_eq_false_iff_ne.mpr c73
          have c73b1 : (a1_0 != 2) = true := bne_iff_ne.mpr c73
          have H' := Aside0.mk H
          clear H
          have hnb76 := NB369_368.out
          have hnc76 := NB368_369.out
          obtain ⟨hcz77_0, hcz77_1, hcz77_2, hcz77_3, hcz77_4, hcz77_5, hcz77_6, hcz77_7⟩ := bc8 (w := wc) BK369.out
          have hfz77 := blk_frozen BK369.out
          go_wp2
          go_meet
          case rel => exact ⟨_, (false), eqs, H', ⟨by have := HJ4.out; have := HJ28.out; first | omega | exact Nat.le_refl _⟩, ⟨bf BK368.out⟩, ⟨bf BK369.out⟩, ⟨bs HB.out⟩⟩
      case rest =>
       clear HC45
       try clear c1
       try clear c2
       try clear p2
       try clear c3
       try clear c4
       try clear c5
       try clear c6
       try clear c7
       try clear c8
       try clear c12
       try clear c14
       try clear c16
       try clear c16b0
       try clear c18
       try clear c25
       try clear c30
       try clear c30b0
       try clear c30b1
       try clear c31
       try clear c31b0
       try clear c32
       try clear c34
       try clear c34b0
       try clear c34b1
       try clear c35
       try clear c37
       try clear c39
       try clear c39b0
       try clear c39b1
       try clear c40
       try clear c42
       try clear c44
       try clear c46
       try clear c46b0
       try clear c46b1
       try clear c47
       try clear c47b0
       try clear c48
       try clear c48b0
       try clear c48b1
       try clear c49
       try clear c49b0
       try clear c50
       try clear c50b0
       try clear c50b1
       try clear c51
       try clear c53
       try clear c55
       try clear c57
       try clear c57b0
       try clear c57b1
       try clear c58
       try clear c60
       try clear c62
       try clear c64
       try clear c64b0
       try clear c64b1
       try clear c65
       try clear c65b0
       try clear c66
       try clear c66b0
       try clear c66b1
       try clear c67
       try clear c69
       try clear c71
       try clear c73
       try clear c73b0
       try clear c73b1
       try clear c74
       try clear c76
       try clear hcz10_0 hcz10_1 hcz10_2 hcz10_3 hcz10_4 hcz10_5 hcz10_6 hcz10_7
       try clear hcz12_0 hcz12_1
       try clear hcz13_0 hcz13_1 hcz13_2 hcz13_3 hcz13_4 hcz13_5 hcz13_6 hcz13_7
       try clear hcz19_0 hcz19_1
       try clear hcz20_0 hcz20_1 hcz20_2 hcz20_3 hcz20_4 hcz20_5 hcz20_6 hcz20_7
       try clear hcz22_0 hcz22_1
       try clear hcz23_0 hcz23_1 hcz23_2 hcz23_3 hcz23_4 hcz23_5 hcz23_6 hcz23_7
       try clear hcz26_0 hcz26_1
       try clear hcz27_0 hcz27_1 hcz27_2 hcz27_3 hcz27_4 hcz27_5 hcz27_6 hcz27_7
       try clear hcz33_0 hcz33_1 hcz33_2 hcz33_3 hcz33_4 hcz33_5 hcz33_6 hcz33_7
       try clear hcz36_0 hcz36_1 hcz36_2 hcz36_3 hcz36_4 hcz36_5 hcz36_6 hcz36_7
       try clear hcz38_0 hcz38_1 hcz38_2 hcz38_3 hcz38_4 hcz38_5 hcz38_6 hcz38_7
       try clear hcz41_0 hcz41_1 hcz41_2 hcz41_3 hcz41_4 hcz41_5 hcz41_6 hcz41_7
       try clear hcz43_0 hcz43_1 hcz43_2 hcz43_3 hcz43_4 hcz43_5 hcz43_6 hcz43_7
       try clear hcz52_0 hcz52_1 hcz52_2 hcz52_3 hcz52_4 hcz52_5 hcz52_6 hcz52_7
       try clear hcz54_0 hcz54_1 hcz54_2 hcz54_3 hcz54_4 hcz54_5 hcz54_6 hcz54_7
       try clear hcz56_0 hcz56_1 hcz56_2 hcz56_3 hcz56_4 hcz56_5 hcz56_6 hcz56_7
       try clear hcz59_0 hcz59_1 hcz59_2 hcz59_3 hcz59_4 hcz59_5 hcz59_6 hcz59_7
       try clear hcz61_0 hcz61_1 hcz61_2 hcz61_3 hcz61_4 hcz61_5 hcz61_6 hcz61_7
       try clear hcz63_0 hcz63_1 hcz63_2 hcz63_3 hcz63_4 hcz63_5 hcz63_6 hcz63_7
       try clear hcz68_0 hcz68_1 hcz68_2 hcz68_3 hcz68_4 hcz68_5 hcz68_6 hcz68_7
       try clear hcz70_0 hcz70_1 hcz70_2 hcz70_3 hcz70_4 hcz70_5 hcz70_6 hcz70_7
       try clear hcz72_0 hcz72_1 hcz72_2 hcz72_3 hcz72_4 hcz72_5 hcz72_6 hcz72_7
       try clear hcz75_0 hcz75_1 hcz75_2 hcz75_3 hcz75_4 hcz75_5 hcz75_6 hcz75_7
       try clear hcz77_0 hcz77_1 hcz77_2 hcz77_3 hcz77_4 hcz77_5 hcz77_6 hcz77_7
       try clear hcz9_0 hcz9_1
       try clear hfz10
       try clear hfz12
       try clear hfz13
       try clear hfz19
       try clear hfz20
       try clear hfz22
       try clear hfz23
       try clear hfz26
       try clear hfz27
       try clear hfz33
       try clear hfz36
       try clear hfz38
       try clear hfz41
       try clear hfz43
       try clear hfz52
       try clear hfz54
       try clear hfz56
       try clear hfz59
       try clear hfz61
       try clear hfz63
       try clear hfz68
       try clear hfz70
       try clear hfz72
       try clear hfz75
       try clear hfz77
       try clear hfz9
       try clear p2
       obtain ⟨kq, x47_44, rfl, HA, HJ44, BK368, BK369, HB⟩ := hcut
       cases kq with
       | zero => exact absurd HA.out (by simp [spec_l2Ends.j2])
       | succ kj44 =>
        have H := HA.out
        clear HA
        simp only [spec_l2Ends.j2] at H
        by_cases c78 : x47_44 = true
        ·subst c78
         have H1 : (some 3) = some r := by rw [if_pos rfl] at H; exact H
         clear H
         have H := H1
         clear H1
         obtain rfl := Option.some.inj H
         go_wp2
         go_ret
         exact ⟨eqr, bs HB.out⟩
        ·replace c78 := Bool.eq_false_iff.mpr c78
         subst c78
         have H1 : (if a1_0 = 1 then ((spec_l2Nodes.f kj44 l0_0 l0_1 a1_1).bind fun t374 => (if t374 ≥ 5 then (some 4) else (if a1_0 = 2 then ((spec_l2Edges.f kj44 l0_0 l0_1 a1_3).bind fun t375 => (if t375 ≥ 7 then (some 4) else (some 0))) else (some 0)))) else (if a1_0 = 2 then ((spec_l2Edges.f kj44 l0_0 l0_1 a1_3).bind fun t376 => (if t376 ≥ 7 then (some 4) else (some 0))) else (some 0))) = some r := by rw [if_neg (show ¬ (false = true) by decide)] at H; exact H
         clear H
         have H := H1
         clear H1
         by_cases c79 : a1_0 = 1
         ·rw [if_pos c79] at H
          have c79b0 : (a1_0 == 1) = true := beq_iff_eq.mpr c79
          have c79b1 : (a1_0 != 1) = false := bne_eq_false_iff_eq.mpr c79
          clear c79
          replace H := Option.bind_eq_some_iff.mp H
          obtain ⟨t374, A800, H⟩ := H
          try dsimp -simprocs only at H
          have A80 := Aside0.mk A800
          clear A800
          by_cases c81 : t374 ≥ 5
          ·rw [if_pos c81] at H
           have c81b0 : decide (5 ≤ t374) = true := decide_eq_true c81
           clear c81
           obtain rfl := Option.some.inj H
           have hnb82 := NB369_368.out
           have hnc82 := NB368_369.out
           obtain ⟨hcz83_0, hcz83_1, hcz83_2, hcz83_3, hcz83_4, hcz83_5, hcz83_6, hcz83_7⟩ := bc8 (w := wc) BK369.out
           have hfz83 := blk_frozen BK369.out
           obtain ⟨hcz84_0, hcz84_1⟩ := bc2 (w := wc) BK368.out
           have hfz84 := blk_frozen BK368.out
           go_wp2_with (first | (go_at_call 79; (with_reducible refine (spec_l2Nodes.calls kj44 _ _ l0_0 _ _ l0_1 a1_1 t374 _ ?side1 ?side2 ?side3 ?side4 A80.out).mono ?_); (case side1 => exact Kd.C_below HR0_0.out (bs HB.out)); (case side2 => exact HC0_0.out); (case side3 => exact Kd.C_below HR0_1.out (bs HB.out)); (case side4 => exact HC0_1.out); rintro e w85 ⟨rfl, hb⟩; replace BK368 := bb BK368 hb rfl; replace BK369 := bb BK369 hb rfl; replace HB := hs HB hb; (try clear hb)))
           go_ret
           exact ⟨eqr, bs HB.out⟩
          ·rw [if_neg c81] at H
           have c81b0 : decide (5 ≤ t374) = false := decide_eq_false c81
           clear c81
           by_cases c86 : a1_0 = 2
           ·rw [if_pos c86] at H
            have c86b0 : (a1_0 == 2) = true := beq_iff_eq.mpr c86
            have c86b1 : (a1_0 != 2) = false := bne_eq_false_iff_eq.mpr c86
            clear c86
            replace H := Option.bind_eq_some_iff.mp H
            obtain ⟨t375, A870, H⟩ := H
            try dsimp -simprocs only at H
            have A87 := Aside0.mk A870
            clear A870
            by_cases c88 : t375 ≥ 7
            ·rw [if_pos c88] at H
             have c88b0 : decide (7 ≤ t375) = true := decide_eq_true c88
             clear c88
             obtain rfl := Option.some.inj H
             have hnb89 := NB369_368.out
             have hnc89 := NB368_369.out
             obtain ⟨hcz90_0, hcz90_1, hcz90_2, hcz90_3, hcz90_4, hcz90_5, hcz90_6, hcz90_7⟩ := bc8 (w := wc) BK369.out
             have hfz90 := blk_frozen BK369.out
             obtain ⟨hcz91_0, hcz91_1⟩ := bc2 (w := wc) BK368.out
             have hfz91 := blk_frozen BK368.out
             go_wp2_with (first | (go_at_call 79; (with_reducible refine (spec_l2Nodes.calls kj44 _ _ l0_0 _ _ l0_1 a1_1 t374 _ ?side1 ?side2 ?side3 ?side4 A80.out).mono ?_); (case side1 => exact Kd.C_below HR0_0.out (bs HB.out)); (case side2 => exact HC0_0.out); (case side3 => exact Kd.C_below HR0_1.out (bs HB.out)); (case side4 => exact HC0_1.out); rintro e w92 ⟨rfl, hb⟩; replace BK368 := bb BK368 hb rfl; replace BK369 := bb BK369 hb rfl; replace HB := hs HB hb; (try clear hb); obtain ⟨hcz93_0, hcz93_1, hcz93_2, hcz93_3, hcz93_4, hcz93_5, hcz93_6, hcz93_7⟩ := bc8 (w := w92) BK369.out; have hfz93 := blk_frozen BK369.out; obtain ⟨hcz94_0, hcz94_1⟩ := bc2 (w := w92) BK368.out; have hfz94 := blk_frozen BK368.out) | (go_at_call 80; (with_reducible refine (spec_l2Edges.calls kj44 _ _ l0_0 _ _ l0_1 a1_3 t375 _ ?side1 ?side2 ?side3 ?side4 A87.out).mono ?_); (case side1 => exact Kd.C_below HR0_0.out (bs HB.out)); (case side2 => exact HC0_0.out); (case side3 => exact Kd.C_below HR0_1.out (bs HB.out)); (case side4 => exact HC0_1.out); rintro e w95 ⟨rfl, hb⟩; replace BK368 := bb BK368 hb rfl; replace BK369 := bb BK369 hb rfl; replace HB := hs HB hb; (try clear hb)))
             go_ret
             exact ⟨eqr, bs HB.out⟩
            ·rw [if_neg c88] at H
             have c88b0 : decide (7 ≤ t375) = false := decide_eq_false c88
             clear c88
             obtain rfl := Option.some.inj H
             have hnb96 := NB369_368.out
             have hnc96 := NB368_369.out
             obtain ⟨hcz97_0, hcz97_1, hcz97_2, hcz97_3, hcz97_4, hcz97_5, hcz97_6, hcz97_7⟩ := bc8 (w := wc) BK369.out
             have hfz97 := blk_frozen BK369.out
             obtain ⟨hcz98_0, hcz98_1⟩ := bc2 (w := wc) BK368.out
             have hfz98 := blk_frozen BK368.out
             go_wp2_with (first | (go_at_call 79; (with_reducible refine (spec_l2Nodes.calls kj44 _ _ l0_0 _ _ l0_1 a1_1 t374 _ ?side1 ?side2 ?side3 ?side4 A80.out).mono ?_); (case side1 => exact Kd.C_below HR0_0.out (bs HB.out)); (case side2 => exact HC0_0.out); (case side3 => exact Kd.C_below HR0_1.out (bs HB.out)); (case side4 => exact HC0_1.out); rintro e w99 ⟨rfl, hb⟩; replace BK368 := bb BK368 hb rfl; replace BK369 := bb BK369 hb rfl; replace HB := hs HB hb; (try clear hb); obtain ⟨hcz100_0, hcz100_1, hcz100_2, hcz100_3, hcz100_4, hcz100_5, hcz100_6, hcz100_7⟩ := bc8 (w := w99) BK369.out; have hfz100 := blk_frozen BK369.out; obtain ⟨hcz101_0, hcz101_1⟩ := bc2 (w := w99) BK368.out; have hfz101 := blk_frozen BK368.out) | (go_at_call 80; (with_reducible refine (spec_l2Edges.calls kj44 _ _ l0_0 _ _ l0_1 a1_3 t375 _ ?side1 ?side2 ?side3 ?side4 A87.out).mono ?_); (case side1 => exact Kd.C_below HR0_0.out (bs HB.out)); (case side2 => exact HC0_0.out); (case side3 => exact Kd.C_below HR0_1.out (bs HB.out)); (case side4 => exact HC0_1.out); rintro e w102 ⟨rfl, hb⟩; replace BK368 := bb BK368 hb rfl; replace BK369 := bb BK369 hb rfl; replace HB := hs HB hb; (try clear hb)))
             go_ret
             exact ⟨eqr, bs HB.out⟩
           ·rw [if_neg c86] at H
            have c86b0 : (a1_0 == 2) = false := beq_eq_false_iff_ne.mpr c86
            have c86b1 : (a1_0 != 2) = true := bne_iff_ne.mpr c86
            obtain rfl := Option.some.inj H
            have hnb103 := NB369_368.out
            have hnc103 := NB368_369.out
            obtain ⟨hcz104_0, hcz104_1, hcz104_2, hcz104_3, hcz104_4, hcz104_5, hcz104_6, hcz104_7⟩ := bc8 (w := wc) BK369.out
            have hfz104 := blk_frozen BK369.out
            obtain ⟨hcz105_0, hcz105_1⟩ := bc2 (w := wc) BK368.out
            have hfz105 := blk_frozen BK368.out
            go_wp2_with (first | (go_at_call 79; (with_reducible refine (spec_l2Nodes.calls kj44 _ _ l0_0 _ _ l0_1 a1_1 t374 _ ?side1 ?side2 ?side3 ?side4 A80.out).mono ?_); (case side1 => exact Kd.C_below HR0_0.out (bs HB.out)); (case side2 => exact HC0_0.out); (case side3 => exact Kd.C_below HR0_1.out (bs HB.out)); (case side4 => exact HC0_1.out); rintro e w106 ⟨rfl, hb⟩; replace BK368 := bb BK368 hb rfl; replace BK369 := bb BK369 hb rfl; replace HB := hs HB hb; (try clear hb); obtain ⟨hcz107_0, hcz107_1, hcz107_2, hcz107_3, hcz107_4, hcz107_5, hcz107_6, hcz107_7⟩ := bc8 (w := w106) BK369.out; have hfz107 := blk_frozen BK369.out))
            go_ret
            exact ⟨eqr, bs HB.out⟩
         ·rw [if_neg c79] at H
          have c79b0 : (a1_0 == 1) = false := beq_eq_false_iff_ne.mpr c79
          have c79b1 : (a1_0 != 1) = true := bne_iff_ne.mpr c79
          by_cases c108 : a1_0 = 2
          ·rw [if_pos c108] at H
           have c108b0 : (a1_0 == 2) = true := beq_iff_eq.mpr c108
           have c108b1 : (a1_0 != 2) = false := bne_eq_false_iff_eq.mpr c108
           clear c108
           replace H := Option.bind_eq_some_iff.mp H
           obtain ⟨t376, A1090, H⟩ := H
           try dsimp -simprocs only at H
           have A109 := Aside0.mk A1090
           clear A1090
           by_cases c110 : t376 ≥ 7
           ·rw [if_pos c110] at H
            have c110b0 : decide (7 ≤ t376) = true := decide_eq_true c110
            clear c110
            obtain rfl := Option.some.inj H
            have hnb111 := NB369_368.out
            have hnc111 := NB368_369.out
            obtain ⟨hcz112_0, hcz112_1, hcz112_2, hcz112_3, hcz112_4, hcz112_5, hcz112_6, hcz112_7⟩ := bc8 (w := wc) BK369.out
            have hfz112 := blk_frozen BK369.out
            obtain ⟨hcz113_0, hcz113_1⟩ := bc2 (w := wc) BK368.out
            have hfz113 := blk_frozen BK368.out
            go_wp2_with (first | (go_at_call 80; (with_reducible refine (spec_l2Edges.calls kj44 _ _ l0_0 _ _ l0_1 a1_3 t376 _ ?side1 ?side2 ?side3 ?side4 A109.out).mono ?_); (case side1 => exact Kd.C_below HR0_0.out (bs HB.out)); (case side2 => exact HC0_0.out); (case side3 => exact Kd.C_below HR0_1.out (bs HB.out)); (case side4 => exact HC0_1.out); rintro e w114 ⟨rfl, hb⟩; replace BK368 := bb BK368 hb rfl; replace BK369 := bb BK369 hb rfl; replace HB := hs HB hb; (try clear hb)))
            go_ret
            exact ⟨eqr, bs HB.out⟩
           ·rw [if_neg c110] at H
            have c110b0 : decide (7 ≤ t376) = false := decide_eq_false c110
            clear c110
            obtain rfl := Option.some.inj H
            have hnb115 := NB369_368.out
            have hnc115 := NB368_369.out
            obtain ⟨hcz116_0, hcz116_1, hcz116_2, hcz116_3, hcz116_4, hcz116_5, hcz116_6, hcz116_7⟩ := bc8 (w := wc) BK369.out
            have hfz116 := blk_frozen BK369.out
            obtain ⟨hcz117_0, hcz117_1⟩ := bc2 (w := wc) BK368.out
            have hfz117 := blk_frozen BK368.out
            go_wp2_with (first | (go_at_call 80; (with_reducible refine (spec_l2Edges.calls kj44 _ _ l0_0 _ _ l0_1 a1_3 t376 _ ?side1 ?side2 ?side3 ?side4 A109.out).mono ?_); (case side1 => exact Kd.C_below HR0_0.out (bs HB.out)); (case side2 => exact HC0_0.out); (case side3 => exact Kd.C_below HR0_1.out (bs HB.out)); (case side4 => exact HC0_1.out); rintro e w118 ⟨rfl, hb⟩; replace BK368 := bb BK368 hb rfl; replace BK369 := bb BK369 hb rfl; replace HB := hs HB hb; (try clear hb)))
            go_ret
            exact ⟨eqr, bs HB.out⟩
          ·rw [if_neg c108] at H
           have c108b0 : (a1_0 == 2) = false := beq_eq_false_iff_ne.mpr c108
           have c108b1 : (a1_0 != 2) = true := bne_iff_ne.mpr c108
           obtain rfl := Option.some.inj H
           have hnb119 := NB369_368.out
           have hnc119 := NB368_369.out
           obtain ⟨hcz120_0, hcz120_1, hcz120_2, hcz120_3, hcz120_4, hcz120_5, hcz120_6, hcz120_7⟩ := bc8 (w := wc) BK369.out
           have hfz120 := blk_frozen BK369.out
           go_wp2
           go_ret
           exact ⟨eqr, bs HB.out⟩

end Go.Proofs.Ytohmemckdogljaa.QFnGraphView
