/- Contracts of the Go functions that this law reaches: each does what its plain Lean function says. No condition. -/
import Derived.Test.YtohmemckdogljaaQFnGraphViewx0
import Derived.Test.YtohmemckdogljaaQFnGraphViewx5
import Derived.Test.YtohmemckdogljaaQFnGraphViewx8
import Derived.Test.YtohmemckdogljaaQFnGraphViewx16
import Derived.Test.YtohmemckdogljaaQFnGraphViewx17
namespace Go.Proofs.Ytohmemckdogljaa.QFnGraphView
open Go.RowKit Go.Proofs.YtohmemckdogljaaW.PrintWords Go.Proofs.YtohmemckdogljaaW.PrintLast Go.Proofs.YtohmemckdogljaaW.PrintMore Go.Proofs.Ytohmemckdogljaa.Bl
attribute [local go_sem] max2_int min2_int max_two min_two max_three min_three max_four min_four   -- for this text's walks alone
set_option linter.unusedVariables false
set_option linter.unusedSimpArgs false
set_option maxHeartbeats 8000000
set_option maxRecDepth 100000

/-! ### spec_l1Label: function 94 -/
def spec_l1Label.f (k : Nat) (s0_0 : List Int) (s0_1 : Int) : Option (Int × Int) := (spec_l9Rd_pick.f k s0_0 s0_1 20).bind fun bt566 => (if bt566.1 = 0 then ((spec_l9Rd_num.f k s0_0 bt566.2 (([(-1), 8, 9223372036854775807, (-9223372036854775808)] : List Int))).bind fun bt571 => (some (bt571.1, bt571.2))) else ((spec_l9Rd_pick.f k s0_0 bt566.2 8).bind fun bt573 => (some (bt573.1, bt573.2))))
theorem spec_l1Label.calls (k : Nat) (g : Nat) (s0_0 : List Int) (s0_1 : Int) (r1 : Int) (r2 : Int) (w0 w : World) (hI : IsS126 w0 w g s0_0 s0_1) (hB : Below w0.heap.size w0 w) (h : spec_l1Label.f k s0_0 s0_1 = some (r1, r2)) :
  Calls Try.prog 94 #[.pointer (some ⟨g, 0, none⟩)] w fun e w' => e = .returned (.int .i64 r1) ∧ IsS126 w0 w' g s0_0 r2 ∧ Below w0.heap.size w0 w' ∧ KeepBut w w' g none := by
 have HI0 := Aside0.mk hI
 have GEg_ : Ge w0 g := ⟨IsS126.ge HI0.out⟩
 have HK := Aside0.mk (KeepBut.refl w g none)
 have HL := Aside0.mk hB.size
 clear hI
 have HW0 := Aside0.mk hB.size
 have HB := Aside0.mk hB
 clear hB
 have H := h; unfold spec_l1Label.f at H
 clear h
 replace H := Option.bind_eq_some_iff.mp H
 obtain ⟨⟨t566, t567⟩, A20, H⟩ := H
 try dsimp -simprocs only at H
 have A2 := Aside0.mk A20
 clear A20
 by_cases c3 : t566 = 0
 ·rw [if_pos c3] at H
  have c3b0 : (t566 == 0) = true := beq_iff_eq.mpr c3
  have c3b1 : (t566 != 0) = false := bne_eq_false_iff_eq.mpr c3
  clear c3
  obtain ⟨y568, hy568⟩ : ∃ y_ : List Int, y_ = (([(-1), 8, 9223372036854775807, (-9223372036854775808)] : List Int)) := ⟨_, rfl⟩
  replace H : ((spec_l9Rd_num.f k s0_0 t567 y568).bind fun bt571 => (some (bt571.1, bt571.2))) = some (r1, r2) := by first | (rw [hy568]; exact H) | exact H
  have Ny568 := Aside0.mk hy568
  clear hy568
  replace H := Option.bind_eq_some_iff.mp H
  obtain ⟨⟨t571, t572⟩, A40, H⟩ := H
  try dsimp -simprocs only at H
  have A4 := Aside0.mk A40
  clear A40
  simp only [Option.some.injEq, Prod.mk.injEq] at H
  obtain ⟨rfl, rfl⟩ := H
  go_enter Try.func94, Try.ntmps94
  go_wp2_with (first | ((with_reducible refine gc 120 rfl ?_); refine gl 4 Try.func120 #[.pointer (some ⟨g, 0, none⟩), .int .i64 20] ?_; (with_reducible refine (spec_l9Rd_pick.calls k g s0_0 s0_1 20 t566 t567 w0 _ ?side1 ?side2 A2.out).mono ?_); (case side1 => exact iis HI0.out); (case side2 => exact bs HB.out); rintro e w5 ⟨rfl, hi, hb, hk⟩; refine ⟨_, rfl, ?_⟩; replace HK := kt HK hk; replace HB := Aside0.mk (hb); replace HI0 := Aside0.mk (hi); (try clear hi hb hk)) | ((with_reducible refine gd 7 rfl ?_); refine Kd.R_lit (Kd.int .i64) _ 3 ?hg (N := 7) ?hd (xs := ([(-1), 8, 9223372036854775807, (-9223372036854775808)] : List Int)) (inner := [.int .i64 (-1), .int .i64 8, .int .i64 9223372036854775807, .int .i64 (-9223372036854775808)]) (ok := fun _ => True) (okp := fun _ => True) ?hr ?hp (fun _ hk => hk) trivial (Below.refl _ _) (Nat.le_refl _) (by simp) ?_; (case hd => rfl); (case hg => rfl); (case hr => first | (go_simp; done) | (go_simp; rfl)); (case hp => exact (Reps.one (show Kd.M (Kd.int .i64) _ _ _ (-1) [.int .i64 (-1)] from rfl) (Reps.one (show Kd.M (Kd.int .i64) _ _ _ 8 [.int .i64 8] from rfl) (Reps.one (show Kd.M (Kd.int .i64) _ _ _ 9223372036854775807 [.int .i64 9223372036854775807] from rfl) (Reps.one (show Kd.M (Kd.int .i64) _ _ _ (-9223372036854775808) [.int .i64 (-9223372036854775808)] from rfl) (Reps.none _ _)))))); intro v569 w6 ho7 hb hg_ hnew_; clear hg_ hnew_; (first | rw [← Ny568.out] at ho7 | (simp only [Int.reduceToNat] at ho7; rw [← Ny568.out] at ho7)); have HO570 := Aside0.mk (Kd.R_lower ho7 (keep_size (w := w) (g := g) (row := none) (ks HK.out))); replace HI0 := ib HI0 hb; replace HK := kb HK hb; replace HB := hs HB hb; clear hb ho7; obtain ⟨Ao8, co8, eo8⟩ := Kd.R_slice HO570.out; subst eo8) | ((with_reducible refine gc 119 rfl ?_); refine gl 8 Try.func119 #[.pointer (some ⟨g, 0, none⟩), .slice Ao8 y568.length co8] ?_; (with_reducible refine (spec_l9Rd_num.calls k g s0_0 t567 _ _ y568 t571 t572 w0 _ ?side1 ?side2 ?side3 ?side4 ?side5 A4.out).mono ?_); (case side1 => exact iis HI0.out); (case side2 => exact bs HB.out); (case side3 => exact cr HO570); (case side4 => exact (Kd.R_reads' HO570.out).2.1); (case side5 => exact far_slice (IsS126.own_ne HI0.out HO570.out (by decide))); rintro e w9 ⟨rfl, hi, hb, hk⟩; refine ⟨_, rfl, ?_⟩; replace HO570 := ro HO570 HI0 hk; replace HK := kt HK hk; replace HB := Aside0.mk (hb); replace HI0 := Aside0.mk (hi); (try clear hi hb hk)))
  go_ret
  exact ⟨eqr, iis HI0.out, bs HB.out, ks HK.out⟩
 ·rw [if_neg c3] at H
  have c3b0 : (t566 == 0) = false := beq_eq_false_iff_ne.mpr c3
  have c3b1 : (t566 != 0) = true := bne_iff_ne.mpr c3
  replace H := Option.bind_eq_some_iff.mp H
  obtain ⟨⟨t573, t574⟩, A100, H⟩ := H
  try dsimp -simprocs only at H
  have A10 := Aside0.mk A100
  clear A100
  simp only [Option.some.injEq, Prod.mk.injEq] at H
  obtain ⟨rfl, rfl⟩ := H
  go_enter Try.func94, Try.ntmps94
  go_wp2_with (first | ((with_reducible refine gc 120 rfl ?_); refine gl 4 Try.func120 #[.pointer (some ⟨g, 0, none⟩), .int .i64 20] ?_; (with_reducible refine (spec_l9Rd_pick.calls k g s0_0 s0_1 20 t566 t567 w0 _ ?side1 ?side2 A2.out).mono ?_); (case side1 => exact iis HI0.out); (case side2 => exact bs HB.out); rintro e w11 ⟨rfl, hi, hb, hk⟩; refine ⟨_, rfl, ?_⟩; replace HK := kt HK hk; replace HB := Aside0.mk (hb); replace HI0 := Aside0.mk (hi); (try clear hi hb hk)) | ((with_reducible refine gc 120 rfl ?_); refine gl 10 Try.func120 #[.pointer (some ⟨g, 0, none⟩), .int .i64 8] ?_; (with_reducible refine (spec_l9Rd_pick.calls k g s0_0 t567 8 t573 t574 w0 _ ?side1 ?side2 A10.out).mono ?_); (case side1 => exact iis HI0.out); (case side2 => exact bs HB.out); rintro e w12 ⟨rfl, hi, hb, hk⟩; refine ⟨_, rfl, ?_⟩; replace HK := kt HK hk; replace HB := Aside0.mk (hb); replace HI0 := Aside0.mk (hi); (try clear hi hb hk)))
  go_ret
  exact ⟨eqr, iis HI0.out, bs HB.out, ks HK.out⟩

/-! ### spec_DrawGraphView: function 45 -/
def spec_DrawGraphView.f (k : Nat) (l0 : List Int) : Option ((List (S36)) × (List (S56)) × Int) := (spec_l9Open.f l0).bind fun bt576 => ((spec_l2Graph.f k bt576.1 bt576.2).bind fun bt579 => ((spec_l2Bent.f k bt576.1 bt579.2.2 bt579.1 bt579.2.1).bind fun bt586 => ((spec_l1Label.f k bt576.1 bt586.2.2).bind fun bt594 => (some (bt586.1, bt586.2.1, bt594.1)))))
theorem spec_DrawGraphView.calls (k : Nat) (A0 : Option Addr) (c0 : Nat) (l0 : List Int) (r1 : List (S36)) (r2 : List (S56)) (r3 : Int) (w : World) (hr0 : Kd.C (Kd.int .u8) w A0 l0.length l0) (hc0 : l0.length ≤ c0) (h : spec_DrawGraphView.f k l0 = some (r1, r2, r3)) :
  Calls Try.prog 45 #[.slice A0 l0.length c0] w fun e w' => ∃ v0_ v1_ : Value, e = .returned (.tuple #[.agg #[v0_, v1_], .int .i64 r3]) ∧ Kd.Q k36 36 w' w.heap.size (fun _ => True) v0_ r1 ∧ Kd.R k56 56 w' w.heap.size (fun _ => True) v1_ r2 ∧ Below w.heap.size w w' := by
 have hu34 := Try.underlying34
 have HR0 := Aside0.mk hr0
 have HC0 := Aside0.mk hc0
 clear hr0 hc0
 have HB := Aside0.mk (Below.refl w.heap.size w)
 have H := h; unfold spec_DrawGraphView.f at H
 clear h
 replace H := Option.bind_eq_some_iff.mp H
 obtain ⟨⟨t576, t577⟩, A20, H⟩ := H
 try dsimp -simprocs only at H
 have A2 := Aside0.mk A20
 clear A20
 replace H := Option.bind_eq_some_iff.mp H
 obtain ⟨⟨t579, t582, t585⟩, A30, H⟩ := H
 try dsimp -simprocs only at H
 have A3 := Aside0.mk A30
 clear A30
 replace H := Option.bind_eq_some_iff.mp H
 obtain ⟨⟨t586, t589, t592⟩, A40, H⟩ := H
 try dsimp -simprocs only at H
 have A4 := Aside0.mk A40
 clear A40
 replace H := Option.bind_eq_some_iff.mp H
 obtain ⟨⟨t594, t595⟩, A50, H⟩ := H
 try dsimp -simprocs only at H
 have A5 := Aside0.mk A50
 clear A50
 simp only [Option.some.injEq, Prod.mk.injEq] at H
 obtain ⟨rfl, rfl, rfl⟩ := H
 go_enter Try.func45, Try.ntmps45
 try go_wp2_with (first | ((with_reducible refine gd 2 rfl ?_); refine bx 2 (cs := #[.slice none 0 0, .slice none 0 0]) (t := 34) ?_; intro gb575 hg w6 hbox hb; have BK575 := Aside0.mk (hbox); have GW575 := gwb HB hg; replace HB := hs HB hb; clear hb hbox hg) | ((with_reducible refine gc 86 rfl ?_); refine gl 7 Try.func86 #[.slice A0 l0.length c0] ?_; (with_reducible refine (spec_l9Open.calls _ _ l0 t576 t577 w _ ?side1 ?side2 ?side3 A2.out).mono ?_); (case side1 => exact bs HB.out); (case side2 => exact HR0.out); (case side3 => exact HC0.out); rintro e w7 ⟨g578, rfl, hi, hb, hb2⟩; refine ⟨_, rfl, ?_⟩; replace HB := Aside0.mk (hb); have HI578 := Aside0.mk (hi); have NB578_575 := Nq.mk (IsS126.ne_blk hi (blk_belowD BK575.out hb2 rfl) (by decide)); have NB575_578 := Nq.mk (Ne.symm (IsS126.ne_blk hi (blk_belowD BK575.out hb2 rfl) (by decide))); replace BK575 := Aside0.mk (blk_belowD BK575.out hb2 rfl); (try clear hi hb hb2)) | ((with_reducible refine gc 87 rfl ?_); refine gl 10 Try.func87 #[.pointer (some ⟨g578, 0, none⟩)] ?_; (with_reducible refine (spec_l2Graph.calls k g578 t576 t577 t579 t582 t585 w _ ?side1 ?side2 A3.out).mono ?_); (case side1 => exact iis HI578.out); (case side2 => exact bs HB.out); rintro e w8 ⟨v580, v583, rfl, ho0, ho1, hi, hb, hk⟩; refine ⟨_, rfl, ?_⟩; replace BK575 := kk BK575 hk; have HO581 := Aside0.mk (Kd.R_lower ho0 (below_size (bs HB.out))); have HO584 := Aside0.mk (Kd.R_lower ho1 (below_size (bs HB.out))); replace HB := Aside0.mk (hb); replace HI578 := Aside0.mk (hi); (try clear ho0 ho1 hi hb hk); obtain ⟨Ao9, co9, eo9⟩ := Kd.R_slice HO581.out; subst eo9; obtain ⟨Ao10, co10, eo10⟩ := Kd.R_slice HO584.out; subst eo10) | ((with_reducible refine gc 88 rfl ?_); refine gl 11 Try.func88 #[.pointer (some ⟨g578, 0, none⟩), .agg #[.slice Ao9 t579.length co9, .slice Ao10 t582.length co10]] ?_; (with_reducible refine (spec_l2Bent.calls k g578 t576 t585 _ _ t579 _ _ t582 t586 t589 t592 w _ ?side1 ?side2 ?side3 ?side4 ?side5 ?side6 A4.out).mono ?_); (case side1 => exact iis HI578.out); (case side2 => exact bs HB.out); (case side3 => exact Kd.C_foot_own (IsS126.apart (show IsS126 w _ g578 t576 t585 from iis HI578.out) (rl HO581.out) (by decide)) (fun _ h_ => h_.2)); (case side4 => exact (Kd.R_reads' HO581.out).2.1); (case side5 => exact Kd.C_foot_own (IsS126.apart (show IsS126 w _ g578 t576 t585 from iis HI578.out) (rl HO584.out) (by decide)) (fun _ h_ => h_.2)); (case side6 => exact (Kd.R_reads' HO584.out).2.1); rintro e w11 ⟨v587, v590, rfl, ho0, ho1, hi, hb, hk⟩; refine ⟨_, rfl, ?_⟩; replace BK575 := kk BK575 hk; have HO588 := Aside0.mk (Kd.Q_lower (Kd.Q_new' ho0 (Kd.R_lt (rl HO581.out))) (below_size (bs HB.out))); replace HO581 := Aside0.mk (Kd.R_mono (Kd.R_told (Kd.R_oldK (IsS126.apart (show IsS126 w _ g578 t576 t585 from iis HI578.out) (rl HO581.out) (by decide)) hk) (Kd.Q_base ho0)) (fun _ h_ => h_.1)); have HO591 := Aside0.mk (Kd.R_lower (Kd.R_new' ho1 (Kd.R_lt (rl HO584.out))) (below_size (bs HB.out))); replace HO584 := Aside0.mk (Kd.R_mono (Kd.R_told (Kd.R_oldK (IsS126.apart (show IsS126 w _ g578 t576 t585 from iis HI578.out) (rl HO584.out) (by decide)) hk) (Kd.R_base ho1)) (fun _ h_ => h_.1)); replace HB := Aside0.mk (hb); replace HI578 := Aside0.mk (hi); (try clear ho0 ho1 hi hb hk)) | ((with_reducible refine gd 5 rfl ?_); refine bx 5 (cs := #[.slice none 0 0, .slice none 0 0]) (t := 34) ?_; intro gb593 hg w12 hbox hb; replace HO581 := rb HO581 hb; replace HO584 := rb HO584 hb; replace HO588 := Aside0.mk (Kd.Q_below (by (with_reducible repeat (first | apply Kd.Q_alloc | apply Kd.Q_drewN | apply Kd.Q_drew)); exact HO588.out) hb); replace HO591 := rb HO591 hb; have BK593 := Aside0.mk (hbox); have GW593 := gwb HB hg; replace HB := hs HB hb; have NB575_593 := nq BK575 hg; have NB593_575 := nq' BK575 hg; replace BK575 := bb BK575 hb rfl; have NB578_593 := Nq.mk ((by rw [hg]; exact Nat.ne_of_lt (IsS126.lt (show IsS126 w _ g578 t576 t592 from iis HI578.out)) : g578 ≠ gb593)); have NB593_578 := Nq.mk ((by rw [hg]; exact Nat.ne_of_gt (IsS126.lt (show IsS126 w _ g578 t576 t592 from iis HI578.out)) : gb593 ≠ g578)); replace HI578 := ib HI578 hb; clear hb hbox hg; obtain ⟨Ao13, co13, eo13, _⟩ := Kd.Q_slice HO588.out; subst eo13; have hnb14 := NB593_575.out; have hnc14 := NB575_593.out; have hnb15 := NB593_578.out; have hnc15 := NB578_593.out; obtain ⟨hcz16_0, hcz16_1⟩ := bc2 (w := w12) BK593.out; have hfz16 := blk_frozen BK593.out; obtain ⟨Ao17, co17, eo17⟩ := Kd.R_slice HO591.out; subst eo17))
 have n0_ : Aside0 (Kd.R k36 36 ((w12.setCell ⟨gb593, 0, none⟩ (.slice Ao13 t586.length co13)).setCell ⟨gb593, 1, none⟩ (.slice Ao17 t589.length co17)) w.heap.size (fun k_ => some k_ ≠ (.slice Ao13 t586.length co13 : Value).ownBlock) (.slice Ao9 t579.length co9) t579) := ⟨Kd.R_mono (rt HO581.out BK593.out (by decide)) (fun _ hk => hk.2)⟩
 have n1_ : Aside0 (Kd.R k56 56 ((w12.setCell ⟨gb593, 0, none⟩ (.slice Ao13 t586.length co13)).setCell ⟨gb593, 1, none⟩ (.slice Ao17 t589.length co17)) w.heap.size (fun k_ => some k_ ≠ (.slice Ao17 t589.length co17 : Value).ownBlock) (.slice Ao10 t582.length co10) t582) := ⟨Kd.R_mono (rt HO584.out BK593.out (by decide)) (fun _ hk => hk.2)⟩
 have n2_ : Aside0 (Kd.Q k36 36 ((w12.setCell ⟨gb593, 0, none⟩ (.slice Ao13 t586.length co13)).setCell ⟨gb593, 1, none⟩ (.slice Ao17 t589.length co17)) w.heap.size (fun k_ => some k_ ≠ (.slice Ao9 t579.length co9 : Value).ownBlock) (.slice Ao13 t586.length co13) t586) := ⟨by (with_reducible repeat (first | apply Kd.Q_alloc | apply Kd.Q_drewN | apply Kd.Q_drew)); exact Kd.Q_mono (Kd.Q_far (p := ⟨gb593, 1, none⟩) (Kd.Q_far (p := ⟨gb593, 0, none⟩) (Kd.Q_types HO588.out BK593.out (by decide)) (fun _ hk => hk.2) (.slice Ao13 t586.length co13)) (fun _ hk => hk.2) (.slice Ao17 t589.length co17)) (fun _ hk => hk.1.2)⟩
 have n3_ : Aside0 (Kd.R k56 56 ((w12.setCell ⟨gb593, 0, none⟩ (.slice Ao13 t586.length co13)).setCell ⟨gb593, 1, none⟩ (.slice Ao17 t589.length co17)) w.heap.size (fun k_ => some k_ ≠ (.slice Ao10 t582.length co10 : Value).ownBlock) (.slice Ao17 t589.length co17) t589) := ⟨Kd.R_mono (rt HO591.out BK593.out (by decide)) (fun _ hk => hk.2)⟩
 have n4_ : Aside0 (((w12.setCell ⟨gb593, 0, none⟩ (.slice Ao13 t586.length co13)).setCell ⟨gb593, 1, none⟩ (.slice Ao17 t589.length co17)).heap[gb575]? = some (.cells #[.slice none 0 0, .slice none 0 0] 34 (0, 0))) := ⟨bf BK575.out⟩
 have n5_ : Aside0 (((w12.setCell ⟨gb593, 0, none⟩ (.slice Ao13 t586.length co13)).setCell ⟨gb593, 1, none⟩ (.slice Ao17 t589.length co17)).heap[gb593]? = some (.cells #[.slice Ao13 t586.length co13, .slice Ao17 t589.length co17] 34 (0, 0))) := ⟨by (with_reducible repeat (first | refine blk_drewN ?_ _ | refine blk_drew ?_ | refine blk_alloc ?_ _)); refine blk_put (cs := #[.slice Ao13 t586.length co13, .slice none 0 0]) ?_ 1 _ rfl; (with_reducible repeat (first | refine blk_drewN ?_ _ | refine blk_drew ?_ | refine blk_alloc ?_ _)); refine blk_put (cs := #[.slice none 0 0, .slice none 0 0]) ?_ 0 _ rfl; exact bf BK593.out⟩
 have n6_ : Aside0 (IsS126 w ((w12.setCell ⟨gb593, 0, none⟩ (.slice Ao13 t586.length co13)).setCell ⟨gb593, 1, none⟩ (.slice Ao17 t589.length co17)) g578 t576 t592) := ⟨iis HI578.out⟩
 have n7_ : Aside0 (Below w.heap.size w ((w12.setCell ⟨gb593, 0, none⟩ (.slice Ao13 t586.length co13)).setCell ⟨gb593, 1, none⟩ (.slice Ao17 t589.length co17))) := ⟨bs HB.out⟩
 (try clear HO581)
 (try clear HO584)
 (try clear HO588)
 (try clear HO591)
 (try clear BK575)
 (try clear BK593)
 (try clear HI578)
 (try clear HB)
 generalize ((w12.setCell ⟨gb593, 0, none⟩ (.slice Ao13 t586.length co13)).setCell ⟨gb593, 1, none⟩ (.slice Ao17 t589.length co17)) = w18 at n0_ n1_ n2_ n3_ n4_ n5_ n6_ n7_ ⊢
 have HO581 := n0_
 have HO584 := n1_
 have HO588 := n2_
 have HO591 := n3_
 have BK575 := n4_
 have BK593 := n5_
 have HI578 := n6_
 have HB := n7_
 clear n0_ n1_ n2_ n3_ n4_ n5_ n6_ n7_
 replace HO581 := rd_ HO581
 replace HO584 := rd_ HO584
 replace HO588 := Aside0.mk (Kd.Q_drew HO588.out)
 replace HO591 := rd_ HO591
 replace BK575 := bd BK575
 replace BK593 := bd BK593
 replace HI578 := Aside0.mk (IsS126.drew HI578.out)
 replace HB := hd HB
 refine start_ (n := 5) (S := fun w' => w'.cell? ⟨gb593, 0, none⟩ = some (.slice Ao13 t586.length co13) ∧ w'.cell? ⟨gb593, 1, none⟩ = some (.slice Ao17 t589.length co17)) (ds := []) #[false, false, false, false, false] (by kernel_rfl) rfl rfl ⟨(blk_cell BK593.out 0).trans rfl, (blk_cell BK593.out 1).trans rfl⟩ (fun hHeld => ?_)
 generalize w18.drew = w19 at HO581 HO584 HO588 HO591 BK575 BK593 HI578 HB hHeld ⊢
 refine pu 1 13 ?_
 refine tk 0 12 ?_
 refine one_ (i := 2) (N := some 14) #[true, true, true, false, false] rfl rfl (by kernel_rfl) (by decide) (fun K hK => ?_)
 refine gs Try.func94 #[.pointer (some ⟨g578, 0, none⟩)] ?_
 with_reducible refine (spec_l1Label.calls k g578 t576 t592 t594 t595 w _ ?side1 ?side2 A5.out).mono ?_
 (case side1 => exact iis HI578.out)
 (case side2 => exact bs HB.out)
 rintro e w20 ⟨rfl, hi, hb, hk⟩
 refine ⟨_, rfl, ?_⟩
 replace BK575 := kk BK575 hk
 replace HO581 := Aside0.mk (Kd.R_mono (Kd.R_keep (IsS126.apart (show IsS126 w _ g578 t576 t592 from iis HI578.out) (rl HO581.out) (by decide)) hk (fun _ h => h.2)) (fun _ h => h.1))
 replace HO584 := Aside0.mk (Kd.R_mono (Kd.R_keep (IsS126.apart (show IsS126 w _ g578 t576 t592 from iis HI578.out) (rl HO584.out) (by decide)) hk (fun _ h => h.2)) (fun _ h => h.1))
 replace HO588 := Aside0.mk (Kd.Q_mono (Kd.Q_keep (IsS126.apartQ (show IsS126 w _ g578 t576 t592 from iis HI578.out) (by (with_reducible repeat (first | apply Kd.Q_alloc | apply Kd.Q_drewN | apply Kd.Q_drew)); exact HO588.out) (by decide)) hk (fun _ h => h.2)) (fun _ h => h.1))
 replace HO591 := Aside0.mk (Kd.R_mono (Kd.R_keep (IsS126.apart (show IsS126 w _ g578 t576 t592 from iis HI578.out) (rl HO591.out) (by decide)) hk (fun _ h => h.2)) (fun _ h => h.1))
 replace BK593 := kk BK593 hk
 replace HB := Aside0.mk (hb)
 replace HI578 := Aside0.mk (hi)
 (try clear hb)
 (try clear hb2)
 (try clear hk)
 (try clear hi)
 refine hK.out _ _ ⟨(blk_cell BK593.out 0).trans rfl, (blk_cell BK593.out 1).trans rfl⟩ (fun hHeld => ?_)
 clear hK K
 refine nrm 14 ?_
 refine one_ (i := 3) (N := none) #[true, true, true, true, false] rfl rfl (by kernel_rfl) (by decide) (fun K hK => ?_)
 have hs21 : w20.cell? ⟨gb575, 0, none⟩ = some (.slice none 0 0) := (blk_cell BK575.out 0).trans rfl
 have hfs21 := blk_frozen BK575.out 0
 have hns21_1 := NB593_575.out
 have hms21_1 := NB575_593.out
 have hs22 : w20.cell? ⟨gb575, 1, none⟩ = some (.slice none 0 0) := (blk_cell BK575.out 1).trans rfl
 have hfs22 := blk_frozen BK575.out 1
 have hns22_1 := NB593_575.out
 have hms22_1 := NB575_593.out
 refine skip_ (w1 := ?_) (by rfl) rfl ?_ ?_
 rotate_left
 ·go_simp
  rfl
 refine hK.out _ _ ⟨((cell_far (p := ⟨gb575, _, none⟩) NB593_575.out _).trans (((cell_far (p := ⟨gb575, _, none⟩) NB593_575.out _).trans (hHeld.1)))), ((cell_far (p := ⟨gb575, _, none⟩) NB593_575.out _).trans (((cell_far (p := ⟨gb575, _, none⟩) NB593_575.out _).trans (hHeld.2))))⟩ (fun hHeld => ?_)
 clear hK K
 refine pu 4 3 ?_
 refine done_ (by kernel_rfl) ?_
 try go_wp2
 refine bodyPost_ret (results_ct rfl _ _ gb575 34 #[.slice Ao13 t586.length co13, .slice Ao17 t589.length co17] (0, 0) _ rfl (bp BK575.out rfl) Try.underlying34 rfl (by kernel_rfl)) rfl ?_
 exact ⟨_, _, eqr, by (with_reducible repeat (first | apply Kd.Q_alloc | apply Kd.Q_drewN | apply Kd.Q_drew)); exact Kd.Q_mono (Kd.Q_far (p := ⟨gb575, 1, none⟩) (Kd.Q_far (p := ⟨gb575, 0, none⟩) (Kd.Q_types HO588.out BK575.out (by decide)) (fun _ hk => hk.2) (.slice Ao13 t586.length co13)) (fun _ hk => hk.2) (.slice Ao17 t589.length co17)) (fun _ hk => trivial), Kd.R_mono (rt HO591.out BK575.out (by decide)) (fun _ hk => trivial), bs HB.out⟩

/-! ### impl_LabelMeet: function 48 -/
def impl_LabelMeet.f (a0 : Int) (a1 : Int) : Option (Int) := (impl_LabelOk.f a0).bind fun t596 => (if t596 = true then ((impl_LabelOk.f a1).bind fun t597 => (if t597 = true then (some (wrap64 (Go.bits .and .u8 ((a0) % 256) ((a1) % 256)))) else (some 0))) else (some 0))
theorem impl_LabelMeet.calls (a0 : Int) (a1 : Int) (r : Int) (w : World) (h : impl_LabelMeet.f a0 a1 = some r) :
  Calls Try.prog 48 #[.int .i64 a0, .int .i64 a1] w fun e w' => e = .returned (.int .i64 r) ∧ Drawn0 w w' := by
 have H := h; unfold impl_LabelMeet.f at H
 clear h
 replace H := Option.bind_eq_some_iff.mp H
 obtain ⟨t596, A30, H⟩ := H
 try dsimp -simprocs only at H
 have A3 := Aside0.mk A30
 clear A30
 by_cases c4 : t596 = true
 ·subst c4
  have H1 : ((impl_LabelOk.f a1).bind fun t597 => (if t597 = true then (some (wrap64 (Go.bits .and .u8 ((a0) % 256) ((a1) % 256)))) else (some 0))) = some r := by rw [if_pos rfl] at H; exact H
  clear H
  have H := H1
  clear H1
  replace H := Option.bind_eq_some_iff.mp H
  obtain ⟨t597, A50, H⟩ := H
  try dsimp -simprocs only at H
  have A5 := Aside0.mk A50
  clear A50
  by_cases c6 : t597 = true
  ·subst c6
   have H1 : (some (wrap64 (Go.bits .and .u8 ((a0) % 256) ((a1) % 256)))) = some r := by rw [if_pos rfl] at H; exact H
   clear H
   have H := H1
   clear H1
   obtain rfl := Option.some.inj H
   go_enter Try.func48, Try.ntmps48
   go_wp2_with (first | ((with_reducible refine gc 46 rfl ?_); refine gl 6 Try.func46 #[.int .i64 a0] ?_; (with_reducible refine (impl_LabelOk.calls a0 true _ A3.out).mono ?_); rintro e w' ⟨rfl, ⟨nd, rfl⟩⟩; refine ⟨_, rfl, ?_⟩) | (go_at_call 46; (with_reducible refine (impl_LabelOk.calls a1 true _ A5.out).mono ?_); rintro e w' ⟨rfl, ⟨nd, rfl⟩⟩))
   go_ret
   exact ⟨eqs, drs⟩
  ·replace c6 := Bool.eq_false_iff.mpr c6
   subst c6
   have H1 : (some 0) = some r := by rw [if_neg (show ¬ (false = true) by decide)] at H; exact H
   clear H
   have H := H1
   clear H1
   obtain rfl := Option.some.inj H
   go_enter Try.func48, Try.ntmps48
   go_wp2_with (first | ((with_reducible refine gc 46 rfl ?_); refine gl 6 Try.func46 #[.int .i64 a0] ?_; (with_reducible refine (impl_LabelOk.calls a0 true _ A3.out).mono ?_); rintro e w' ⟨rfl, ⟨nd, rfl⟩⟩; refine ⟨_, rfl, ?_⟩) | (go_at_call 46; (with_reducible refine (impl_LabelOk.calls a1 false _ A5.out).mono ?_); rintro e w' ⟨rfl, ⟨nd, rfl⟩⟩))
   go_ret
   exact ⟨eqs, drs⟩
 ·replace c4 := Bool.eq_false_iff.mpr c4
  subst c4
  have H1 : (some 0) = some r := by rw [if_neg (show ¬ (false = true) by decide)] at H; exact H
  clear H
  have H := H1
  clear H1
  obtain rfl := Option.some.inj H
  go_enter Try.func48, Try.ntmps48
  go_wp2_with (first | ((with_reducible refine gc 46 rfl ?_); refine gl 6 Try.func46 #[.int .i64 a0] ?_; (with_reducible refine (impl_LabelOk.calls a0 false _ A3.out).mono ?_); rintro e w' ⟨rfl, ⟨nd, rfl⟩⟩; refine ⟨_, rfl, ?_⟩))
  go_ret
  exact ⟨eqs, drs⟩

end Go.Proofs.Ytohmemckdogljaa.QFnGraphView
