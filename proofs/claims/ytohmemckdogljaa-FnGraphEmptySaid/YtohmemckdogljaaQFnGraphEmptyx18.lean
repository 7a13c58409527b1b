/- Contracts of the Go functions that this law reaches: each does what its plain Lean function says. No condition. -/
import Derived.Test.YtohmemckdogljaaQFnGraphEmptyx0
import Derived.Test.YtohmemckdogljaaQFnGraphEmptyx5
import Derived.Test.YtohmemckdogljaaQFnGraphEmptyx7
import Derived.Test.YtohmemckdogljaaQFnGraphEmptyx8
import Derived.Test.YtohmemckdogljaaQFnGraphEmptyx16
import Derived.Test.YtohmemckdogljaaQFnGraphEmptyx17
namespace Go.Proofs.Ytohmemckdogljaa.QFnGraphEmpty
open Go.RowKit Go.Proofs.YtohmemckdogljaaW.PrintWords Go.Proofs.YtohmemckdogljaaW.PrintLast Go.Proofs.YtohmemckdogljaaW.PrintMore Go.Proofs.Ytohmemckdogljaa.Bl
attribute [local go_sem] max2_int min2_int max_two min_two max_three min_three max_four min_four   -- for this text's walks alone
set_option linter.unusedVariables false
set_option linter.unusedSimpArgs false

/-! ### spec_l1Label: function 94 -/
def spec_l1Label.f (k : Nat) (s0_0 : List Int) (s0_1 : Int) : Option (Int × Int) := (spec_l9Rd_pick.f k s0_0 s0_1 20).bind fun bt566 => (if bt566.1 = 0 then ((spec_l9Rd_num.f k s0_0 bt566.2 (([(-1), 8, 9223372036854775807, (-9223372036854775808)] : List Int))).bind fun bt571 => (some (bt571.1, bt571.2))) else ((spec_l9Rd_pick.f k s0_0 bt566.2 8).bind fun bt573 => (some (bt573.1, bt573.2))))
set_option maxHeartbeats 8000000 in
set_option maxRecDepth 100000 in
theorem spec_l1Label.calls (k : Nat) (g : Nat) (s0_0 : List Int) (s0_1 : Int) (r1 : Int) (r2 : Int) (w0 w : World) (hI : IsS126 w0 w g s0_0 s0_1) (hB : Below w0.heap.size w0 w) (h : spec_l1Label.f k s0_0 s0_1 = some (r1, r2)) :
  Calls Try.prog 94 #[.pointer (some ⟨g, 0, none⟩)] w fun e w' => e = .returned (.int .i64 r1) ∧ IsS126 w0 w' g s0_0 r2 ∧ Below w0.heap.size w0 w' ∧ KeepBut w w' g none := by
 have HI0 := Aside0.mk hI
 have GEg_ : Ge w0 g := ⟨IsS126.ge HI0.out⟩
 have HK := Aside0.mk (KeepBut.refl w g none)
 have HL := Aside0.mk hB.size
 clear hI
 have HW0 := Aside0.mk hB.size
 have HB := Aside0.mk hB
 clear hB
 have H := h; unfold spec_l1Label.f at H
 clear h
 replace H := Option.bind_eq_some_iff.mp H
 obtain ⟨⟨t566, t567⟩, A20, H⟩ := H
 try dsimp -simprocs only at H
 have A2 := Aside0.mk A20
 clear A20
 by_cases c3 : t566 = 0
 ·rw [if_pos c3] at H
  have c3b0 : (t566 == 0) = true := beq_iff_eq.mpr c3
  have c3b1 : (t566 != 0) = false := bne_eq_false_iff_eq.mpr c3
  clear c3
  obtain ⟨y568, hy568⟩ : ∃ y_ : List Int, y_ = (([(-1), 8, 9223372036854775807, (-9223372036854775808)] : List Int)) := ⟨_, rfl⟩
  replace H : ((spec_l9Rd_num.f k s0_0 t567 y568).bind fun bt571 => (some (bt571.1, bt571.2))) = some (r1, r2) := by first | (rw [hy568]; exact H) | exact H
  have Ny568 := Aside0.mk hy568
  clear hy568
  replace H := Option.bind_eq_some_iff.mp H
  obtain ⟨⟨t571, t572⟩, A40, H⟩ := H
  try dsimp -simprocs only at H
  have A4 := Aside0.mk A40
  clear A40
  simp only [Option.some.injEq, Prod.mk.injEq] at H
  obtain ⟨rfl, rfl⟩ := H
  go_enter Try.func94, Try.ntmps94
  go_wp2_with (first | ((with_reducible refine gc (f := 120) rfl ?_); refine gl 4 Try.func120 #[.pointer (some ⟨g, 0, none⟩), .int .i64 20] ?_; (with_reducible refine (spec_l9Rd_pick.calls k g s0_0 s0_1 20 t566 t567 w0 _ ?side1 ?side2 A2.out).mono ?_); (case side1 => exact iis HI0.out); (case side2 => exact bs HB.out); rintro e w5 ⟨rfl, hi, hb, hk⟩; refine ⟨_, rfl, ?_⟩; replace HK := kt HK hk; replace HB := Aside0.mk (hb); replace HI0 := Aside0.mk (hi); (try clear hi hb hk)) | ((with_reducible refine gd (N := 7) rfl ?_); refine Kd.R_lit (Kd.int .i64) _ 3 ?hg (N := 7) ?hd (xs := ([(-1), 8, 9223372036854775807, (-9223372036854775808)] : List Int)) (inner := [.int .i64 (-1), .int .i64 8, .int .i64 9223372036854775807, .int .i64 (-9223372036854775808)]) (ok := fun _ => True) (okp := fun _ => True) ?hr ?hp (fun _ hk => hk) trivial (Below.refl _ _) (Nat.le_refl _) (by simp) ?_; (case hd => rfl); (case hg => rfl); (case hr => first | (go_simp; done) | (go_simp; rfl)); (case hp => exact (Reps.one (show Kd.M (Kd.int .i64) _ _ _ (-1) [.int .i64 (-1)] from rfl) (Reps.one (show Kd.M (Kd.int .i64) _ _ _ 8 [.int .i64 8] from rfl) (Reps.one (show Kd.M (Kd.int .i64) _ _ _ 9223372036854775807 [.int .i64 9223372036854775807] from rfl) (Reps.one (show Kd.M (Kd.int .i64) _ _ _ (-9223372036854775808) [.int .i64 (-9223372036854775808)] from rfl) (Reps.none _ _)))))); intro v569 w6 ho7 hb hg_ hnew_; clear hg_ hnew_; (first | rw [← Ny568.out] at ho7 | (simp only [Int.reduceToNat] at ho7; rw [← Ny568.out] at ho7)); have HO570 := Aside0.mk (Kd.R_lower ho7 (keep_size (w := w) (g := g) (row := none) (ks HK.out))); replace HI0 := ib HI0 hb; replace HK := kb HK hb; replace HB := hs HB hb; clear hb ho7; obtain ⟨Ao8, co8, eo8⟩ := Kd.R_slice HO570.out; subst eo8) | ((with_reducible refine gc (f := 119) rfl ?_); refine gl 8 Try.func119 #[.pointer (some ⟨g, 0, none⟩), .slice Ao8 y568.length co8] ?_; (with_reducible refine (spec_l9Rd_num.calls k g s0_0 t567 _ _ y568 t571 t572 w0 _ ?side1 ?side2 ?side3 ?side4 ?side5 A4.out).mono ?_); (case side1 => exact iis HI0.out); (case side2 => exact bs HB.out); (case side3 => repeat (first | exact (Kd.R_reads' HO570.out).2.2 | (with_reducible refine Kd.C_alloc ?_ _) | (with_reducible refine Kd.C_drewN ?_ _) | (with_reducible refine Kd.C_drew ?_))); (case side4 => exact (Kd.R_reads' HO570.out).2.1); (case side5 => exact far_slice (IsS126.own_ne HI0.out HO570.out (by decide))); rintro e w9 ⟨rfl, hi, hb, hk⟩; refine ⟨_, rfl, ?_⟩; replace HO570 := ro HO570 HI0 hk; replace HK := kt HK hk; replace HB := Aside0.mk (hb); replace HI0 := Aside0.mk (hi); (try clear hi hb hk)))
  go_ret
  exact ⟨by first | rfl | (simp [*, errW_none, errW_some] <;> rfl), iis HI0.out, by repeat (first | (with_reducible first | exact HB.out | apply below_alloc | apply pw_below_drewN | apply below_drew1 | refine below_set ?_ (IsS126.ge HI0.out)) | exact HB.out), ks HK.out⟩
 ·rw [if_neg c3] at H
  have c3b0 : (t566 == 0) = false := beq_eq_false_iff_ne.mpr c3
  have c3b1 : (t566 != 0) = true := bne_iff_ne.mpr c3
  replace H := Option.bind_eq_some_iff.mp H
  obtain ⟨⟨t573, t574⟩, A100, H⟩ := H
  try dsimp -simprocs only at H
  have A10 := Aside0.mk A100
  clear A100
  simp only [Option.some.injEq, Prod.mk.injEq] at H
  obtain ⟨rfl, rfl⟩ := H
  go_enter Try.func94, Try.ntmps94
  go_wp2_with (first | ((with_reducible refine gc (f := 120) rfl ?_); refine gl 4 Try.func120 #[.pointer (some ⟨g, 0, none⟩), .int .i64 20] ?_; (with_reducible refine (spec_l9Rd_pick.calls k g s0_0 s0_1 20 t566 t567 w0 _ ?side1 ?side2 A2.out).mono ?_); (case side1 => exact iis HI0.out); (case side2 => exact bs HB.out); rintro e w11 ⟨rfl, hi, hb, hk⟩; refine ⟨_, rfl, ?_⟩; replace HK := kt HK hk; replace HB := Aside0.mk (hb); replace HI0 := Aside0.mk (hi); (try clear hi hb hk)) | ((with_reducible refine gc (f := 120) rfl ?_); refine gl 10 Try.func120 #[.pointer (some ⟨g, 0, none⟩), .int .i64 8] ?_; (with_reducible refine (spec_l9Rd_pick.calls k g s0_0 t567 8 t573 t574 w0 _ ?side1 ?side2 A10.out).mono ?_); (case side1 => exact iis HI0.out); (case side2 => exact bs HB.out); rintro e w12 ⟨rfl, hi, hb, hk⟩; refine ⟨_, rfl, ?_⟩; replace HK := kt HK hk; replace HB := Aside0.mk (hb); replace HI0 := Aside0.mk (hi); (try clear hi hb hk)))
  go_ret
  exact ⟨by first | rfl | (simp [*, errW_none, errW_some] <;> rfl), iis HI0.out, by repeat (first | (with_reducible first | exact HB.out | apply below_alloc | apply pw_below_drewN | apply below_drew1 | refine below_set ?_ (IsS126.ge HI0.out)) | exact HB.out), ks HK.out⟩

/-! ### spec_DrawGraphView: function 45 -/
def spec_DrawGraphView.f (k : Nat) (l0 : List Int) : Option ((List (S36)) × (List (S56)) × Int) := (spec_l9Open.f l0).bind fun bt576 => ((spec_l2Graph.f k bt576.1 bt576.2).bind fun bt579 => ((spec_l2Bent.f k bt576.1 bt579.2.2 bt579.1 bt579.2.1).bind fun bt586 => ((spec_l1Label.f k bt576.1 bt586.2.2).bind fun bt594 => (some (bt586.1, bt586.2.1, bt594.1)))))
set_option maxHeartbeats 8000000 in
set_option maxRecDepth 100000 in
theorem spec_DrawGraphView.calls (k : Nat) (A0 : Option Addr) (c0 : Nat) (l0 : List Int) (r1 : List (S36)) (r2 : List (S56)) (r3 : Int) (w : World) (hr0 : Kd.C (Kd.int .u8) w A0 l0.length l0) (hc0 : l0.length ≤ c0) (h : spec_DrawGraphView.f k l0 = some (r1, r2, r3)) :
  Calls Try.prog 45 #[.slice A0 l0.length c0] w fun e w' => ∃ v0_ v1_ : Value, e = .returned (.tuple #[.agg #[v0_, v1_], .int .i64 r3]) ∧ Kd.Q k36 36 w' w.heap.size (fun _ => True) v0_ r1 ∧ Kd.R k56 56 w' w.heap.size (fun _ => True) v1_ r2 ∧ Below w.heap.size w w' := by
 have hu34 := Try.underlying34
 have HR0 := Aside0.mk hr0
 have HC0 := Aside0.mk hc0
 clear hr0 hc0
 have HB := Aside0.mk (Below.refl w.heap.size w)
 have H := h; unfold spec_DrawGraphView.f at H
 clear h
 replace H := Option.bind_eq_some_iff.mp H
 obtain ⟨⟨t576, t577⟩, A20, H⟩ := H
 try dsimp -simprocs only at H
 have A2 := Aside0.mk A20
 clear A20
 replace H := Option.bind_eq_some_iff.mp H
 obtain ⟨⟨t579, t582, t585⟩, A30, H⟩ := H
 try dsimp -simprocs only at H
 have A3 := Aside0.mk A30
 clear A30
 replace H := Option.bind_eq_some_iff.mp H
 obtain ⟨⟨t586, t589, t592⟩, A40, H⟩ := H
 try dsimp -simprocs only at H
 have A4 := Aside0.mk A40
 clear A40
 replace H := Option.bind_eq_some_iff.mp H
 obtain ⟨⟨t594, t595⟩, A50, H⟩ := H
 try dsimp -simprocs only at H
 have A5 := Aside0.mk A50
 clear A50
 simp only [Option.some.injEq, Prod.mk.injEq] at H
 obtain ⟨rfl, rfl, rfl⟩ := H
 go_enter Try.func45, Try.ntmps45
 try go_wp2_with (first | ((with_reducible refine gd (N := 2) rfl ?_); refine bx 2 (cs := #[.slice none 0 0, .slice none 0 0]) (t := 34) ?_; intro gb575 hg w6 hbox hb; have BK575 := Aside0.mk (hbox); have GW575 := gwb HB hg; replace HB := hs HB hb; clear hb hbox hg) | ((with_reducible refine gc (f := 86) rfl ?_); refine gl 7 Try.func86 #[.slice A0 l0.length c0] ?_; (with_reducible refine (spec_l9Open.calls _ _ l0 t576 t577 w _ ?side1 ?side2 ?side3 A2.out).mono ?_); (case side1 => exact bs HB.out); (case side2 => exact HR0.out); (case side3 => exact HC0.out); rintro e w7 ⟨g578, rfl, hi, hb, hb2⟩; refine ⟨_, rfl, ?_⟩; replace HB := Aside0.mk (hb); have HI578 := Aside0.mk (hi); have NB578_575 := Nq.mk (IsS126.ne_blk hi (blk_belowD BK575.out hb2 rfl) (by decide)); have NB575_578 := Nq.mk (Ne.symm (IsS126.ne_blk hi (blk_belowD BK575.out hb2 rfl) (by decide))); replace BK575 := Aside0.mk (blk_belowD BK575.out hb2 rfl); (try clear hi hb hb2)) | ((with_reducible refine gc (f := 87) rfl ?_); refine gl 10 Try.func87 #[.pointer (some ⟨g578, 0, none⟩)] ?_; (with_reducible refine (spec_l2Graph.calls k g578 t576 t577 t579 t582 t585 w _ ?side1 ?side2 A3.out).mono ?_); (case side1 => exact iis HI578.out); (case side2 => exact bs HB.out); rintro e w8 ⟨v580, v583, rfl, ho0, ho1, hi, hb, hk⟩; refine ⟨_, rfl, ?_⟩; replace BK575 := kk BK575 hk; have HO581 := Aside0.mk (Kd.R_lower ho0 (below_size (bs HB.out))); have HO584 := Aside0.mk (Kd.R_lower ho1 (below_size (bs HB.out))); replace HB := Aside0.mk (hb); replace HI578 := Aside0.mk (hi); (try clear ho0 ho1 hi hb hk); obtain ⟨Ao9, co9, eo9⟩ := Kd.R_slice HO581.out; subst eo9; obtain ⟨Ao10, co10, eo10⟩ := Kd.R_slice HO584.out; subst eo10) | ((with_reducible refine gc (f := 88) rfl ?_); refine gl 11 Try.func88 #[.pointer (some ⟨g578, 0, none⟩), .agg #[.slice Ao9 t579.length co9, .slice Ao10 t582.length co10]] ?_; (with_reducible refine (spec_l2Bent.calls k g578 t576 t585 _ _ t579 _ _ t582 t586 t589 t592 w _ ?side1 ?side2 ?side3 ?side4 ?side5 ?side6 A4.out).mono ?_); (case side1 => exact iis HI578.out); (case side2 => exact bs HB.out); (case side3 => exact Kd.C_foot_own (IsS126.apart (show IsS126 w _ g578 t576 t585 from iis HI578.out) (rl HO581.out) (by decide)) (fun _ h_ => h_.2)); (case side4 => exact (Kd.R_reads' HO581.out).2.1); (case side5 => exact Kd.C_foot_own (IsS126.apart (show IsS126 w _ g578 t576 t585 from iis HI578.out) (rl HO584.out) (by decide)) (fun _ h_ => h_.2)); (case side6 => exact (Kd.R_reads' HO584.out).2.1); rintro e w11 ⟨v587, v590, rfl, ho0, ho1, hi, hb, hk⟩; refine ⟨_, rfl, ?_⟩; replace BK575 := kk BK575 hk; have HO588 := Aside0.mk (Kd.Q_lower (Kd.Q_new' ho0 (Kd.R_lt (rl HO581.out))) (below_size (bs HB.out))); replace HO581 := Aside0.mk (Kd.R_mono (Kd.R_told (Kd.R_oldK (IsS126.apart (show IsS126 w _ g578 t576 t585 from iis HI578.out) (rl HO581.out) (by decide)) hk) (Kd.Q_base ho0)) (fun _ h_ => h_.1)); have HO591 := Aside0.mk (Kd.R_lower (Kd.R_new' ho1 (Kd.R_lt (rl HO584.out))) (below_size (bs HB.out))); replace HO584 := Aside0.mk (Kd.R_mono (Kd.R_told (Kd.R_oldK (IsS126.apart (show IsS126 w _ g578 t576 t585 from iis HI578.out) (rl HO584.out) (by decide)) hk) (Kd.R_base ho1)) (fun _ h_ => h_.1)); replace HB := Aside0.mk (hb); replace HI578 := Aside0.mk (hi); (try clear ho0 ho1 hi hb hk)) | ((with_reducible refine gd (N := 5) rfl ?_); refine bx 5 (cs := #[.slice none 0 0, .slice none 0 0]) (t := 34) ?_; intro gb593 hg w12 hbox hb; replace HO581 := rb HO581 hb; replace HO584 := rb HO584 hb; replace HO588 := Aside0.mk (Kd.Q_below (by (with_reducible repeat (first | apply Kd.Q_alloc | apply Kd.Q_drewN | apply Kd.Q_drew)); exact HO588.out) hb); replace HO591 := rb HO591 hb; have BK593 := Aside0.mk (hbox); have GW593 := gwb HB hg; replace HB := hs HB hb; have NB575_593 := nq BK575 hg; have NB593_575 := nq' BK575 hg; replace BK575 := bb BK575 hb rfl; have NB578_593 := Nq.mk ((by rw [hg]; exact Nat.ne_of_lt (IsS126.lt (show IsS126 w _ g578 t576 t592 from iis HI578.out)) : g578 ≠ gb593)); have NB593_578 := Nq.mk ((by rw [hg]; exact Nat.ne_of_gt (IsS126.lt (show IsS126 w _ g578 t576 t592 from iis HI578.out)) : gb593 ≠ g578)); replace HI578 := ib HI578 hb; clear hb hbox hg; obtain ⟨Ao13, co13, eo13, _⟩ := Kd.Q_slice HO588.out; subst eo13; have hnb14 := NB593_575.out; have hnc14 := NB575_593.out; have hnb15 := NB593_578.out; have hnc15 := NB578_593.out; obtain ⟨hcz16_0, hcz16_1⟩ := bc2 (w := w12) BK593.out; have hfz16 := blk_frozen BK593.out; obtain ⟨Ao17, co17, eo17⟩ := Kd.R_slice HO591.out; subst eo17))
 have n0_ : Aside0 (Kd.R k36 36 ((w12.setCell ⟨gb593, 0, none⟩ (.slice Ao13 t586.length co13)).setCell ⟨gb593, 1, none⟩ (.slice Ao17 t589.length co17)) w.heap.size (fun k_ => some k_ ≠ (.slice Ao13 t586.length co13 : Value).ownBlock) (.slice Ao9 t579.length co9) t579) := ⟨Kd.R_mono (rt HO581.out BK593.out (by decide)) (fun _ hk => hk.2)⟩
 have n1_ : Aside0 (Kd.R k56 56 ((w12.setCell ⟨gb593, 0, none⟩ (.slice Ao13 t586.length co13)).setCell ⟨gb593, 1, none⟩ (.slice Ao17 t589.length co17)) w.heap.size (fun k_ => some k_ ≠ (.slice Ao17 t589.length co17 : Value).ownBlock) (.slice Ao10 t582.length co10) t582) := ⟨Kd.R_mono (rt HO584.out BK593.out (by decide)) (fun _ hk => hk.2)⟩
 have n2_ : Aside0 (Kd.Q k36 36 ((w12.setCell ⟨gb593, 0, none⟩ (.slice Ao13 t586.length co13)).setCell ⟨gb593, 1, none⟩ (.slice Ao17 t589.length co17)) w.heap.size (fun k_ => some k_ ≠ (.slice Ao9 t579.length co9 : Value).ownBlock) (.slice Ao13 t586.length co13) t586) := ⟨by (with_reducible repeat (first | apply Kd.Q_alloc | apply Kd.Q_drewN | apply Kd.Q_drew)); exact Kd.Q_mono (Kd.Q_far (p := ⟨gb593, 1, none⟩) (Kd.Q_far (p := ⟨gb593, 0, none⟩) (Kd.Q_types HO588.out BK593.out (by decide)) (fun _ hk => hk.2) (.slice Ao13 t586.length co13)) (fun _ hk => hk.2) (.slice Ao17 t589.length co17)) (fun _ hk => hk.1.2)⟩
 have n3_ : Aside0 (Kd.R k56 56 ((w12.setCell ⟨gb593, 0, none⟩ (.slice Ao13 t586.length co13)).setCell ⟨gb593, 1, none⟩ (.slice Ao17 t589.length co17)) w.heap.size (fun k_ => some k_ ≠ (.slice Ao10 t582.length co10 : Value).ownBlock) (.slice Ao17 t589.length co17) t589) := ⟨Kd.R_mono (rt HO591.out BK593.out (by decide)) (fun _ hk => hk.2)⟩
 have n4_ : Aside0 (((w12.setCell ⟨gb593, 0, none⟩ (.slice Ao13 t586.length co13)).setCell ⟨gb593, 1, none⟩ (.slice Ao17 t589.length co17)).heap[gb575]? = some (.cells #[.slice none 0 0, .slice none 0 0] 34 (0, 0))) := ⟨bf BK575.out⟩
 have n5_ : Aside0 (((w12.setCell ⟨gb593, 0, none⟩ (.slice Ao13 t586.length co13)).setCell ⟨gb593, 1, none⟩ (.slice Ao17 t589.length co17)).heap[gb593]? = some (.cells #[.slice Ao13 t586.length co13, .slice Ao17 t589.length co17] 34 (0, 0))) := ⟨by (with_reducible repeat (first | refine blk_drewN ?_ _ | refine blk_drew ?_ | refine blk_alloc ?_ _)); refine blk_put (cs := #[.slice Ao13 t586.length co13, .slice none 0 0]) ?_ 1 _ rfl; (with_reducible repeat (first | refine blk_drewN ?_ _ | refine blk_drew ?_ | refine blk_alloc ?_ _)); refine blk_put (cs := #[.slice none 0 0, .slice none 0 0]) ?_ 0 _ rfl; exact bf BK593.out⟩
 have n6_ : Aside0 (IsS126 w ((w12.setCell ⟨gb593, 0, none⟩ (.slice Ao13 t586.length co13)).setCell ⟨gb593, 1, none⟩ (.slice Ao17 t589.length co17)) g578 t576 t592) := ⟨iis HI578.out⟩
 have n7_ : Aside0 (Below w.heap.size w ((w12.setCell ⟨gb593, 0, none⟩ (.slice Ao13 t586.length co13)).setCell ⟨gb593, 1, none⟩ (.slice Ao17 t589.length co17))) := ⟨bs HB.out⟩
 (try clear HO581)
 (try clear HO584)
 (try clear HO588)
 (try clear HO591)
 (try clear BK575)
 (try clear BK593)
 (try clear HI578)
 (try clear HB)
 generalize ((w12.setCell ⟨gb593, 0, none⟩ (.slice Ao13 t586.length co13)).setCell ⟨gb593, 1, none⟩ (.slice Ao17 t589.length co17)) = w18 at n0_ n1_ n2_ n3_ n4_ n5_ n6_ n7_ ⊢
 have HO581 := n0_
 have HO584 := n1_
 have HO588 := n2_
 have HO591 := n3_
 have BK575 := n4_
 have BK593 := n5_
 have HI578 := n6_
 have HB := n7_
 clear n0_ n1_ n2_ n3_ n4_ n5_ n6_ n7_
 replace HO581 := rd_ HO581
 replace HO584 := rd_ HO584
 replace HO588 := Aside0.mk (Kd.Q_drew HO588.out)
 replace HO591 := rd_ HO591
 replace BK575 := bd BK575
 replace BK593 := bd BK593
 replace HI578 := Aside0.mk (IsS126.drew HI578.out)
 replace HB := hd HB
 refine start_ (n := 5) (S := fun w' => w'.cell? ⟨gb593, 0, none⟩ = some (.slice Ao13 t586.length co13) ∧ w'.cell? ⟨gb593, 1, none⟩ = some (.slice Ao17 t589.length co17)) (ds := []) #[false, false, false, false, false] (by kernel_rfl) rfl rfl ⟨(blk_cell BK593.out 0).trans rfl, (blk_cell BK593.out 1).trans rfl⟩ (fun hHeld => ?_)
 generalize w18.drew = w19 at HO581 HO584 HO588 HO591 BK575 BK593 HI578 HB hHeld ⊢
 refine pu 1 13 ?_
 refine tk 0 12 ?_
 refine one_ (i := 2) (N := some 14) #[true, true, true, false, false] rfl rfl (by kernel_rfl) (by decide) (fun K hK => ?_)
 refine gs Try.func94 #[.pointer (some ⟨g578, 0, none⟩)] ?_
 with_reducible refine (spec_l1Label.calls k g578 t576 t592 t594 t595 w _ ?side1 ?side2 A5.out).mono ?_
 (case side1 => exact iis HI578.out)
 (case side2 => exact bs HB.out)
 rintro e w20 ⟨rfl, hi, hb, hk⟩
 refine ⟨_, rfl, ?_⟩
 replace BK575 := kk BK575 hk
 replace HO581 := Aside0.mk (Kd.R_mono (Kd.R_keep (IsS126.apart (show IsS126 w _ g578 t576 t592 from iis HI578.out) (rl HO581.out) (by decide)) hk (fun _ h => h.2)) (fun _ h => h.1))
 replace HO584 := Aside0.mk (Kd.R_mono (Kd.R_keep (IsS126.apart (show IsS126 w _ g578 t576 t592 from iis HI578.out) (rl HO584.out) (by decide)) hk (fun _ h => h.2)) (fun _ h => h.1))
 replace HO588 := Aside0.mk (Kd.Q_mono (Kd.Q_keep (IsS126.apartQ (show IsS126 w _ g578 t576 t592 from iis HI578.out) (by (with_reducible repeat (first | apply Kd.Q_alloc | apply Kd.Q_drewN | apply Kd.Q_drew)); exact HO588.out) (by decide)) hk (fun _ h => h.2)) (fun _ h => h.1))
 replace HO591 := Aside0.mk (Kd.R_mono (Kd.R_keep (IsS126.apart (show IsS126 w _ g578 t576 t592 from iis HI578.out) (rl HO591.out) (by decide)) hk (fun _ h => h.2)) (fun _ h => h.1))
 replace BK593 := kk BK593 hk
 replace HB := Aside0.mk (hb)
 replace HI578 := Aside0.mk (hi)
 (try clear hb)
 (try clear hb2)
 (try clear hk)
 (try clear hi)
 refine hK.out _ _ ⟨(blk_cell BK593.out 0).trans rfl, (blk_cell BK593.out 1).trans rfl⟩ (fun hHeld => ?_)
 clear hK K
 refine nrm 14 ?_
 refine one_ (i := 3) (N := none) #[true, true, true, true, false] rfl rfl (by kernel_rfl) (by decide) (fun K hK => ?_)
 have hs21 : w20.cell? ⟨gb575, 0, none⟩ = some (.slice none 0 0) := (blk_cell BK575.out 0).trans rfl
 have hfs21 := blk_frozen BK575.out 0
 have hns21_1 := NB593_575.out
 have hms21_1 := NB575_593.out
 have hs22 : w20.cell? ⟨gb575, 1, none⟩ = some (.slice none 0 0) := (blk_cell BK575.out 1).trans rfl
 have hfs22 := blk_frozen BK575.out 1
 have hns22_1 := NB593_575.out
 have hms22_1 := NB575_593.out
 refine skip_ (w1 := ?_) (by rfl) rfl ?_ ?_
 rotate_left
 ·go_simp
  rfl
 refine hK.out _ _ ⟨((cell_far (p := ⟨gb575, _, none⟩) NB593_575.out _).trans (((cell_far (p := ⟨gb575, _, none⟩) NB593_575.out _).trans (hHeld.1)))), ((cell_far (p := ⟨gb575, _, none⟩) NB593_575.out _).trans (((cell_far (p := ⟨gb575, _, none⟩) NB593_575.out _).trans (hHeld.2))))⟩ (fun hHeld => ?_)
 clear hK K
 refine pu 4 3 ?_
 refine done_ (by kernel_rfl) ?_
 try go_wp2
 refine bodyPost_ret (results_ct rfl _ _ gb575 34 #[.slice Ao13 t586.length co13, .slice Ao17 t589.length co17] (0, 0) _ rfl (bp BK575.out rfl) Try.underlying34 rfl (by kernel_rfl)) rfl ?_
 exact ⟨_, _, by first | rfl | (simp [*, errW_none, errW_some] <;> rfl), by (with_reducible repeat (first | apply Kd.Q_alloc | apply Kd.Q_drewN | apply Kd.Q_drew)); exact Kd.Q_mono (Kd.Q_far (p := ⟨gb575, 1, none⟩) (Kd.Q_far (p := ⟨gb575, 0, none⟩) (Kd.Q_types HO588.out BK575.out (by decide)) (fun _ hk => hk.2) (.slice Ao13 t586.length co13)) (fun _ hk => hk.2) (.slice Ao17 t589.length co17)) (fun _ hk => trivial), Kd.R_mono (rt HO591.out BK575.out (by decide)) (fun _ hk => trivial), bs HB.out⟩

/-! ### laws_FnGraphEmpty: function 9 -/
def laws_FnGraphEmpty.l0 : Nat → Int → Int → List (S36) → List (S56) → Option (Bool)
 | 0, _, _, _, _ => none
 | k + 1, x4, x7, x618000, x618001 => if x7 < (x618001.length : Int) then (if 0 ≤ x7 then (if ((rd_T56 x618001 x7).f0) = 0 then (if ((rd_T56 x618001 x7).f1.f0) = 0 then (laws_FnGraphEmpty.l0 k x4 (wrap64 (x7 + 1)) x618000 x618001) else (some false)) else (some false)) else (none)) else ((impl_GraphView.f k ([] : List (S36)) ([] : List (S56)) x4).bind fun bt627 => ((impl_GraphSame.f k bt627.1 bt627.2 ([] : List (S36)) ([] : List (S56))).bind fun t633 => (if t633 = true then (if (x618000.length : Int) ≤ 5 then (some (decide ((x618001.length : Int) ≤ 7))) else (some false)) else (some false))))
def laws_FnGraphEmpty.f (k : Nat) (l0 : List Int) : Option (Bool) := if (l0.length : Int) > 1048576 then (some true) else ((spec_DrawGraphView.f k l0).bind fun bt596 => ((impl_GraphView.f k bt596.1 bt596.2.1 bt596.2.2).bind fun bt604 => ((impl_GraphView.f k bt596.1 bt596.2.1 0).bind fun bt611 => ((spec_GraphView.f k bt596.1 bt596.2.1 bt596.2.2).bind fun bt618 => ((impl_GraphSame.f k bt604.1 bt604.2 bt618.1 bt618.2).bind fun t624 => (if t624 = true then (laws_FnGraphEmpty.l0 k bt596.2.2 0 bt611.1 bt611.2) else (some false)))))))
set_option maxHeartbeats 8000000 in
set_option maxRecDepth 100000 in
theorem laws_FnGraphEmpty.calls (k : Nat) (A0 : Option Addr) (c0 : Nat) (l0 : List Int) (r : Bool) (hT : Aside0 (r = true)) (w : World) (hr0 : Kd.C (Kd.int .u8) w A0 l0.length l0) (hc0 : l0.length ≤ c0) (h : laws_FnGraphEmpty.f k l0 = some r) :
  Calls Try.prog 9 #[.slice A0 l0.length c0] w fun e w' => e = .returned (.bool r) ∧ Below w.heap.size w w' := by
 have hu34 := Try.underlying34
 have HR0 := Aside0.mk hr0
 have HC0 := Aside0.mk hc0
 clear hr0 hc0
 have HB := Aside0.mk (Below.refl w.heap.size w)
 have H := h; unfold laws_FnGraphEmpty.f at H
 clear h
 by_cases c2 : (l0.length : Int) > 1048576
 ·rw [if_pos c2] at H
  have c2b0 : decide (1048576 < (l0.length : Int)) = true := decide_eq_true c2
  have c2b1 : decide (1048576 < l0.length) = true := decide_eq_true (by omega)
  clear c2
  obtain rfl := Option.some.inj H
  go_enter Try.func9, Try.ntmps9
  go_wp2
  go_ret
  exact ⟨by first | rfl | (simp [*, errW_none, errW_some] <;> rfl), bs HB.out⟩
 ·rw [if_neg c2] at H
  have c2b0 : decide (1048576 < (l0.length : Int)) = false := decide_eq_false c2
  have c2b1 : decide (1048576 < l0.length) = false := decide_eq_false (by omega)
  clear c2
  replace H := Option.bind_eq_some_iff.mp H
  obtain ⟨⟨t596, t599, t602⟩, A30, H⟩ := H
  try dsimp -simprocs only at H
  have A3 := Aside0.mk A30
  clear A30
  replace H := Option.bind_eq_some_iff.mp H
  obtain ⟨⟨t604, t607⟩, A40, H⟩ := H
  try dsimp -simprocs only at H
  have A4 := Aside0.mk A40
  clear A40
  replace H := Option.bind_eq_some_iff.mp H
  obtain ⟨⟨t611, t614⟩, A50, H⟩ := H
  try dsimp -simprocs only at H
  have A5 := Aside0.mk A50
  clear A50
  replace H := Option.bind_eq_some_iff.mp H
  obtain ⟨⟨t618, t621⟩, A60, H⟩ := H
  try dsimp -simprocs only at H
  have A6 := Aside0.mk A60
  clear A60
  replace H := Option.bind_eq_some_iff.mp H
  obtain ⟨t624, A70, H⟩ := H
  try dsimp -simprocs only at H
  have A7 := Aside0.mk A70
  clear A70
  by_cases c8 : t624 = true
  ·subst c8
   have H1 : (laws_FnGraphEmpty.l0 k t602 0 t611 t614) = some r := by rw [if_pos rfl] at H; exact H
   clear H
   have H := H1
   clear H1
   have H' := Aside0.mk H
   clear H
   go_enter Try.func9, Try.ntmps9
   try go_wp2_with (first | ((with_reducible refine gc (f := 45) rfl ?_); refine gl 13 Try.func45 #[.slice A0 l0.length c0] ?_; (with_reducible refine (spec_DrawGraphView.calls k _ _ l0 t596 t599 t602 _ ?side1 ?side2 A3.out).mono ?_); (case side1 => repeat (first | exact HR0.out | (with_reducible refine Kd.C_alloc ?_ _) | (with_reducible refine Kd.C_drewN ?_ _) | (with_reducible refine Kd.C_drew ?_))); (case side2 => exact HC0.out); rintro e w9 ⟨v597, v600, rfl, ho0, ho1, hb⟩; refine ⟨_, rfl, ?_⟩; have HO598 := Aside0.mk (Kd.Q_lower ho0 (below_size (bs HB.out))); have HO601 := Aside0.mk (Kd.R_lower ho1 (below_size (bs HB.out))); replace HB := hs HB hb; (try clear ho0 ho1 hb)) | ((with_reducible refine gd (N := 3) rfl ?_); refine bx 3 (cs := #[.slice none 0 0, .slice none 0 0]) (t := 34) ?_; intro gb603 hg w10 hbox hb; replace HO598 := Aside0.mk (Kd.Q_below (by (with_reducible repeat (first | apply Kd.Q_alloc | apply Kd.Q_drewN | apply Kd.Q_drew)); exact HO598.out) hb); replace HO601 := rb HO601 hb; have BK603 := Aside0.mk (hbox); have GW603 := gwb HB hg; replace HB := hs HB hb; clear hb hbox hg; obtain ⟨Ao11, co11, eo11, _⟩ := Kd.Q_slice HO598.out; subst eo11; obtain ⟨hcz12_0, hcz12_1⟩ := bc2 (w := w10) BK603.out; have hfz12 := blk_frozen BK603.out; obtain ⟨Ao13, co13, eo13⟩ := Kd.R_slice HO601.out; subst eo13) | ((with_reducible refine gc (f := 36) rfl ?_); refine gl 18 Try.func36 #[.agg #[.slice Ao11 t596.length co11, .slice Ao13 t599.length co13], .int .i64 t602] ?_; (with_reducible refine (impl_GraphView.calls k _ _ t596 _ _ t599 t602 t604 t607 _ ?side1 ?side2 ?side3 ?side4 A4.out).mono ?_); (case side1 => refine (Kd.Q_reads' (e := 36) (base := w.heap.size) (ok := fun k_ => True) (n := t596.length) (c := co11) ?_).2.2; exact (by (with_reducible repeat (first | apply Kd.Q_alloc | apply Kd.Q_drewN | apply Kd.Q_drew)); exact (Kd.Q_mono (Kd.Q_far (p := ⟨gb603, 1, none⟩) (Kd.Q_far (p := ⟨gb603, 0, none⟩) (Kd.Q_types HO598.out BK603.out (by decide)) (fun _ hk => hk.2) (.slice Ao11 t596.length co11)) (fun _ hk => hk.2) (.slice Ao13 t599.length co13)) (fun _ h_ => h_.1)))); (case side2 => exact (Kd.Q_reads' HO598.out).2.1); (case side3 => refine (Kd.R_reads' (e := 56) (base := w.heap.size) (ok := fun k_ => True) (n := t599.length) (c := co13) ?_).2.2; exact (by (with_reducible repeat (first | apply Kd.R_alloc | apply Kd.R_drewN | apply Kd.R_drew)); exact (rt HO601.out BK603.out (by decide)))); (case side4 => exact (Kd.R_reads' HO601.out).2.1); rintro e w14 ⟨v605, v608, rfl, ho0, ho1, hb⟩; refine ⟨_, rfl, ?_⟩; have HO606 := Aside0.mk (Kd.R_lower (Kd.R_new' ho0 (Kd.Q_lt (by (with_reducible repeat (first | apply Kd.Q_alloc | apply Kd.Q_drewN | apply Kd.Q_drew)); exact (Kd.Q_mono (Kd.Q_far (p := ⟨gb603, 1, none⟩) (Kd.Q_far (p := ⟨gb603, 0, none⟩) (Kd.Q_types HO598.out BK603.out (by decide)) (fun _ hk => hk.2) (.slice Ao11 t596.length co11)) (fun _ hk => hk.2) (.slice Ao13 t599.length co13)) (fun _ h_ => h_.1))))) (below_size (bs HB.out))); replace HO598 := Aside0.mk (Kd.Q_elder' (by (with_reducible repeat (first | apply Kd.Q_alloc | apply Kd.Q_drewN | apply Kd.Q_drew)); exact (Kd.Q_mono (Kd.Q_far (p := ⟨gb603, 1, none⟩) (Kd.Q_far (p := ⟨gb603, 0, none⟩) (Kd.Q_types HO598.out BK603.out (by decide)) (fun _ hk => hk.2) (.slice Ao11 t596.length co11)) (fun _ hk => hk.2) (.slice Ao13 t599.length co13)) (fun _ h_ => h_.1))) (Kd.R_base ho0) hb); have HO609 := Aside0.mk (Kd.R_lower (Kd.R_new' ho1 (Kd.R_lt (by (with_reducible repeat (first | apply Kd.R_alloc | apply Kd.R_drewN | apply Kd.R_drew)); exact (rt HO601.out BK603.out (by decide))))) (below_size (bs HB.out))); replace HO601 := Aside0.mk (Kd.R_elder' (by (with_reducible repeat (first | apply Kd.R_alloc | apply Kd.R_drewN | apply Kd.R_drew)); exact (rt HO601.out BK603.out (by decide))) (Kd.R_base ho1) hb); replace BK603 := bq #[.slice Ao11 t596.length co11, .slice Ao13 t599.length co13] BK603 hb; replace HB := hs HB hb; (try clear hb); (try clear hb2); (try clear hk); (try clear hi); (try clear ho0); (try clear ho1)) | ((with_reducible refine gd (N := 5) rfl ?_); refine bx 5 (cs := #[.slice none 0 0, .slice none 0 0]) (t := 34) ?_; intro gb610 hg w15 hbox hb; replace HO598 := Aside0.mk (Kd.Q_below (by (with_reducible repeat (first | apply Kd.Q_alloc | apply Kd.Q_drewN | apply Kd.Q_drew)); exact HO598.out) hb); replace HO601 := rb HO601 hb; replace HO606 := rb HO606 hb; replace HO609 := rb HO609 hb; have BK610 := Aside0.mk (hbox); have GW610 := gwb HB hg; replace HB := hs HB hb; have NB603_610 := nq BK603 hg; have NB610_603 := nq' BK603 hg; replace BK603 := bb BK603 hb rfl; clear hb hbox hg; obtain ⟨Ao16, co16, eo16⟩ := Kd.R_slice HO606.out; subst eo16; have hnb17 := NB610_603.out; have hnc17 := NB603_610.out; obtain ⟨hcz18_0, hcz18_1⟩ := bc2 (w := w15) BK610.out; have hfz18 := blk_frozen BK610.out; obtain ⟨Ao19, co19, eo19⟩ := Kd.R_slice HO609.out; subst eo19; obtain ⟨hcz20_0, hcz20_1⟩ := bc2 (w := w15) BK603.out; have hfz20 := blk_frozen BK603.out) | ((with_reducible refine gc (f := 36) rfl ?_); refine gl 20 Try.func36 #[.agg #[.slice Ao11 t596.length co11, .slice Ao13 t599.length co13], .int .i64 0] ?_; (with_reducible refine (impl_GraphView.calls k _ _ t596 _ _ t599 0 t611 t614 _ ?side1 ?side2 ?side3 ?side4 A5.out).mono ?_); (case side1 => refine (Kd.Q_reads' (e := 36) (base := w.heap.size) (ok := fun k_ => (True ∧ some k_ ≠ (.slice Ao16 t604.length co16 : Value).ownBlock)) (n := t596.length) (c := co11) ?_).2.2; exact (by (with_reducible repeat (first | apply Kd.Q_alloc | apply Kd.Q_drewN | apply Kd.Q_drew)); exact (Kd.Q_mono (Kd.Q_far (p := ⟨gb610, 1, none⟩) (Kd.Q_far (p := ⟨gb610, 0, none⟩) (Kd.Q_types HO598.out BK610.out (by decide)) (fun _ hk => hk.2) (.slice Ao16 t604.length co16)) (fun _ hk => hk.2) (.slice Ao19 t607.length co19)) (fun _ h_ => h_.1)))); (case side2 => exact (Kd.Q_reads' HO598.out).2.1); (case side3 => refine (Kd.R_reads' (e := 56) (base := w.heap.size) (ok := fun k_ => (True ∧ some k_ ≠ (.slice Ao19 t607.length co19 : Value).ownBlock)) (n := t599.length) (c := co13) ?_).2.2; exact (by (with_reducible repeat (first | apply Kd.R_alloc | apply Kd.R_drewN | apply Kd.R_drew)); exact (rt HO601.out BK610.out (by decide)))); (case side4 => exact (Kd.R_reads' HO601.out).2.1); rintro e w21 ⟨v612, v615, rfl, ho0, ho1, hb⟩; refine ⟨_, rfl, ?_⟩; have HO613 := Aside0.mk (Kd.R_lower (Kd.R_new' (Kd.R_new' ho0 (Kd.Q_lt (by (with_reducible repeat (first | apply Kd.Q_alloc | apply Kd.Q_drewN | apply Kd.Q_drew)); exact (Kd.Q_mono (Kd.Q_far (p := ⟨gb610, 1, none⟩) (Kd.Q_far (p := ⟨gb610, 0, none⟩) (Kd.Q_types HO598.out BK610.out (by decide)) (fun _ hk => hk.2) (.slice Ao16 t604.length co16)) (fun _ hk => hk.2) (.slice Ao19 t607.length co19)) (fun _ h_ => h_.1))))) (Kd.R_lt (by (with_reducible repeat (first | apply Kd.R_alloc | apply Kd.R_drewN | apply Kd.R_drew)); exact (rt HO606.out BK610.out (by decide))))) (below_size (bs HB.out))); replace HO598 := Aside0.mk (Kd.Q_elder' (by (with_reducible repeat (first | apply Kd.Q_alloc | apply Kd.Q_drewN | apply Kd.Q_drew)); exact (Kd.Q_mono (Kd.Q_far (p := ⟨gb610, 1, none⟩) (Kd.Q_far (p := ⟨gb610, 0, none⟩) (Kd.Q_types HO598.out BK610.out (by decide)) (fun _ hk => hk.2) (.slice Ao16 t604.length co16)) (fun _ hk => hk.2) (.slice Ao19 t607.length co19)) (fun _ h_ => h_.1))) (Kd.R_base ho0) hb); replace HO606 := Aside0.mk (Kd.R_elder' (by (with_reducible repeat (first | apply Kd.R_alloc | apply Kd.R_drewN | apply Kd.R_drew)); exact (rt HO606.out BK610.out (by decide))) (Kd.R_base ho0) hb); have HO616 := Aside0.mk (Kd.R_lower (Kd.R_new' (Kd.R_new' ho1 (Kd.R_lt (by (with_reducible repeat (first | apply Kd.R_alloc | apply Kd.R_drewN | apply Kd.R_drew)); exact (rt HO601.out BK610.out (by decide))))) (Kd.R_lt (by (with_reducible repeat (first | apply Kd.R_alloc | apply Kd.R_drewN | apply Kd.R_drew)); exact (rt HO609.out BK610.out (by decide))))) (below_size (bs HB.out))); replace HO601 := Aside0.mk (Kd.R_elder' (by (with_reducible repeat (first | apply Kd.R_alloc | apply Kd.R_drewN | apply Kd.R_drew)); exact (rt HO601.out BK610.out (by decide))) (Kd.R_base ho1) hb); replace HO609 := Aside0.mk (Kd.R_elder' (by (with_reducible repeat (first | apply Kd.R_alloc | apply Kd.R_drewN | apply Kd.R_drew)); exact (rt HO609.out BK610.out (by decide))) (Kd.R_base ho1) hb); replace BK603 := Aside0.mk (blk_below (g := gb603) (o := .cells #[.slice Ao11 t596.length co11, .slice Ao13 t599.length co13] 34 (0, 0)) (bf BK603.out) hb); replace BK610 := bq #[.slice Ao16 t604.length co16, .slice Ao19 t607.length co19] BK610 hb; replace HB := hs HB hb; (try clear hb); (try clear hb2); (try clear hk); (try clear hi); (try clear ho0); (try clear ho1)) | ((with_reducible refine gd (N := 6) rfl ?_); refine bx 6 (cs := #[.slice none 0 0, .slice none 0 0]) (t := 34) ?_; intro gb617 hg w22 hbox hb; replace HO598 := Aside0.mk (Kd.Q_below (by (with_reducible repeat (first | apply Kd.Q_alloc | apply Kd.Q_drewN | apply Kd.Q_drew)); exact HO598.out) hb); replace HO601 := rb HO601 hb; replace HO606 := rb HO606 hb; replace HO609 := rb HO609 hb; replace HO613 := rb HO613 hb; replace HO616 := rb HO616 hb; have BK617 := Aside0.mk (hbox); have GW617 := gwb HB hg; replace HB := hs HB hb; have NB603_617 := nq BK603 hg; have NB617_603 := nq' BK603 hg; replace BK603 := bb BK603 hb rfl; have NB610_617 := nq BK610 hg; have NB617_610 := nq' BK610 hg; replace BK610 := bb BK610 hb rfl; clear hb hbox hg; obtain ⟨Ao23, co23, eo23⟩ := Kd.R_slice HO613.out; subst eo23; have hnb24 := NB617_603.out; have hnc24 := NB603_617.out; have hnb25 := NB617_610.out; have hnc25 := NB610_617.out; obtain ⟨hcz26_0, hcz26_1⟩ := bc2 (w := w22) BK617.out; have hfz26 := blk_frozen BK617.out; obtain ⟨Ao27, co27, eo27⟩ := Kd.R_slice HO616.out; subst eo27))
   have n0_ : Aside0 (Kd.Q k36 36 ((w22.setCell ⟨gb617, 0, none⟩ (.slice Ao23 t611.length co23)).setCell ⟨gb617, 1, none⟩ (.slice Ao27 t614.length co27)) w.heap.size (fun k_ => some k_ ≠ (.slice Ao16 t604.length co16 : Value).ownBlock ∧ some k_ ≠ (.slice Ao23 t611.length co23 : Value).ownBlock) (.slice Ao11 t596.length co11) t596) := ⟨by (with_reducible repeat (first | apply Kd.Q_alloc | apply Kd.Q_drewN | apply Kd.Q_drew)); exact Kd.Q_mono (Kd.Q_far (p := ⟨gb617, 1, none⟩) (Kd.Q_far (p := ⟨gb617, 0, none⟩) (Kd.Q_types HO598.out BK617.out (by decide)) (fun _ hk => hk.2) (.slice Ao23 t611.length co23)) (fun _ hk => hk.2) (.slice Ao27 t614.length co27)) (fun _ hk => ⟨hk.1.1.2, hk.1.2⟩)⟩
   have n1_ : Aside0 (Kd.R k56 56 ((w22.setCell ⟨gb617, 0, none⟩ (.slice Ao23 t611.length co23)).setCell ⟨gb617, 1, none⟩ (.slice Ao27 t614.length co27)) w.heap.size (fun k_ => some k_ ≠ (.slice Ao19 t607.length co19 : Value).ownBlock ∧ some k_ ≠ (.slice Ao27 t614.length co27 : Value).ownBlock) (.slice Ao13 t599.length co13) t599) := ⟨Kd.R_mono (rt HO601.out BK617.out (by decide)) (fun _ hk => ⟨hk.1.2, hk.2⟩)⟩
   have n2_ : Aside0 (Kd.R k36 36 ((w22.setCell ⟨gb617, 0, none⟩ (.slice Ao23 t611.length co23)).setCell ⟨gb617, 1, none⟩ (.slice Ao27 t614.length co27)) w.heap.size (fun k_ => some k_ ≠ (.slice Ao11 t596.length co11 : Value).ownBlock ∧ some k_ ≠ (.slice Ao23 t611.length co23 : Value).ownBlock) (.slice Ao16 t604.length co16) t604) := ⟨Kd.R_mono (rt HO606.out BK617.out (by decide)) (fun _ hk => ⟨hk.1.2, hk.2⟩)⟩
   have n3_ : Aside0 (Kd.R k56 56 ((w22.setCell ⟨gb617, 0, none⟩ (.slice Ao23 t611.length co23)).setCell ⟨gb617, 1, none⟩ (.slice Ao27 t614.length co27)) w.heap.size (fun k_ => some k_ ≠ (.slice Ao13 t599.length co13 : Value).ownBlock ∧ some k_ ≠ (.slice Ao27 t614.length co27 : Value).ownBlock) (.slice Ao19 t607.length co19) t607) := ⟨Kd.R_mono (rt HO609.out BK617.out (by decide)) (fun _ hk => ⟨hk.1.2, hk.2⟩)⟩
   have n4_ : Aside0 (Kd.R k36 36 ((w22.setCell ⟨gb617, 0, none⟩ (.slice Ao23 t611.length co23)).setCell ⟨gb617, 1, none⟩ (.slice Ao27 t614.length co27)) w.heap.size (fun k_ => some k_ ≠ (.slice Ao11 t596.length co11 : Value).ownBlock ∧ some k_ ≠ (.slice Ao16 t604.length co16 : Value).ownBlock) (.slice Ao23 t611.length co23) t611) := ⟨Kd.R_mono (rt HO613.out BK617.out (by decide)) (fun _ hk => ⟨hk.1.2, hk.2⟩)⟩
   have n5_ : Aside0 (Kd.R k56 56 ((w22.setCell ⟨gb617, 0, none⟩ (.slice Ao23 t611.length co23)).setCell ⟨gb617, 1, none⟩ (.slice Ao27 t614.length co27)) w.heap.size (fun k_ => some k_ ≠ (.slice Ao13 t599.length co13 : Value).ownBlock ∧ some k_ ≠ (.slice Ao19 t607.length co19 : Value).ownBlock) (.slice Ao27 t614.length co27) t614) := ⟨Kd.R_mono (rt HO616.out BK617.out (by decide)) (fun _ hk => ⟨hk.1.2, hk.2⟩)⟩
   have n6_ : Aside0 (((w22.setCell ⟨gb617, 0, none⟩ (.slice Ao23 t611.length co23)).setCell ⟨gb617, 1, none⟩ (.slice Ao27 t614.length co27)).heap[gb603]? = some (.cells #[.slice Ao11 t596.length co11, .slice Ao13 t599.length co13] 34 (0, 0))) := ⟨bf BK603.out⟩
   have n7_ : Aside0 (((w22.setCell ⟨gb617, 0, none⟩ (.slice Ao23 t611.length co23)).setCell ⟨gb617, 1, none⟩ (.slice Ao27 t614.length co27)).heap[gb610]? = some (.cells #[.slice Ao16 t604.length co16, .slice Ao19 t607.length co19] 34 (0, 0))) := ⟨bf BK610.out⟩
   have n8_ : Aside0 (((w22.setCell ⟨gb617, 0, none⟩ (.slice Ao23 t611.length co23)).setCell ⟨gb617, 1, none⟩ (.slice Ao27 t614.length co27)).heap[gb617]? = some (.cells #[.slice Ao23 t611.length co23, .slice Ao27 t614.length co27] 34 (0, 0))) := ⟨by (with_reducible repeat (first | refine blk_drewN ?_ _ | refine blk_drew ?_ | refine blk_alloc ?_ _)); refine blk_put (cs := #[.slice Ao23 t611.length co23, .slice none 0 0]) ?_ 1 _ rfl; (with_reducible repeat (first | refine blk_drewN ?_ _ | refine blk_drew ?_ | refine blk_alloc ?_ _)); refine blk_put (cs := #[.slice none 0 0, .slice none 0 0]) ?_ 0 _ rfl; exact bf BK617.out⟩
   have n9_ : Aside0 (Below w.heap.size w ((w22.setCell ⟨gb617, 0, none⟩ (.slice Ao23 t611.length co23)).setCell ⟨gb617, 1, none⟩ (.slice Ao27 t614.length co27))) := ⟨bs HB.out⟩
   (try clear HO598)
   (try clear HO601)
   (try clear HO606)
   (try clear HO609)
   (try clear HO613)
   (try clear HO616)
   (try clear BK603)
   (try clear BK610)
   (try clear BK617)
   (try clear HB)
   generalize ((w22.setCell ⟨gb617, 0, none⟩ (.slice Ao23 t611.length co23)).setCell ⟨gb617, 1, none⟩ (.slice Ao27 t614.length co27)) = w28 at n0_ n1_ n2_ n3_ n4_ n5_ n6_ n7_ n8_ n9_ ⊢
   have HO598 := n0_
   have HO601 := n1_
   have HO606 := n2_
   have HO609 := n3_
   have HO613 := n4_
   have HO616 := n5_
   have BK603 := n6_
   have BK610 := n7_
   have BK617 := n8_
   have HB := n9_
   clear n0_ n1_ n2_ n3_ n4_ n5_ n6_ n7_ n8_ n9_
   replace HO598 := Aside0.mk (Kd.Q_drew HO598.out)
   replace HO601 := rd_ HO601
   replace HO606 := rd_ HO606
   replace HO609 := rd_ HO609
   replace HO613 := rd_ HO613
   replace HO616 := rd_ HO616
   replace BK603 := bd BK603
   replace BK610 := bd BK610
   replace BK617 := bd BK617
   replace HB := hd HB
   refine start_ (n := 6) (S := fun w' => w'.cell? ⟨gb610, 0, none⟩ = some (.slice Ao16 t604.length co16) ∧ w'.cell? ⟨gb610, 1, none⟩ = some (.slice Ao19 t607.length co19) ∧ w'.cell? ⟨gb603, 0, none⟩ = some (.slice Ao11 t596.length co11) ∧ w'.cell? ⟨gb603, 1, none⟩ = some (.slice Ao13 t599.length co13)) (ds := []) #[false, false, false, false, false, false] (by kernel_rfl) rfl rfl ⟨(blk_cell BK610.out 0).trans rfl, (blk_cell BK610.out 1).trans rfl, (blk_cell BK603.out 0).trans rfl, (blk_cell BK603.out 1).trans rfl⟩ (fun hHeld => ?_)
   generalize w28.drew = w29 at HO598 HO601 HO606 HO609 HO613 HO616 BK603 BK610 BK617 HB hHeld ⊢
   refine pu 2 23 ?_
   refine tk 0 21 ?_
   refine tk 1 22 ?_
   refine one_ (i := 3) (N := some 24) #[true, true, true, true, false, false] rfl rfl (by kernel_rfl) (by decide) (fun K hK => ?_)
   refine gs Try.func35 #[.agg #[.slice Ao11 t596.length co11, .slice Ao13 t599.length co13], .int .i64 t602] ?_
   with_reducible refine (spec_GraphView.calls k _ _ t596 _ _ t599 t602 t618 t621 _ ?side1 ?side2 ?side3 ?side4 A6.out).mono ?_
   (case side1 => repeat (first | exact (Kd.Q_reads' HO598.out).2.2 | (with_reducible refine Kd.C_alloc ?_ _) | (with_reducible refine Kd.C_drewN ?_ _) | (with_reducible refine Kd.C_drew ?_)))
   (case side2 => exact (Kd.Q_reads' HO598.out).2.1)
   (case side3 => repeat (first | exact (Kd.R_reads' HO601.out).2.2 | (with_reducible refine Kd.C_alloc ?_ _) | (with_reducible refine Kd.C_drewN ?_ _) | (with_reducible refine Kd.C_drew ?_)))
   (case side4 => exact (Kd.R_reads' HO601.out).2.1)
   rintro e w30 ⟨v619, v622, rfl, ho0, ho1, hb⟩
   refine ⟨_, rfl, ?_⟩
   have HO620 := Aside0.mk (Kd.R_lower (Kd.R_new' (Kd.R_new' (Kd.R_new' ho0 (Kd.Q_lt (by (with_reducible repeat (first | apply Kd.Q_alloc | apply Kd.Q_drewN | apply Kd.Q_drew)); exact HO598.out))) (Kd.R_lt (rl HO606.out))) (Kd.R_lt (rl HO613.out))) (below_size (bs HB.out)))
   replace HO598 := Aside0.mk (Kd.Q_elder' (by (with_reducible repeat (first | apply Kd.Q_alloc | apply Kd.Q_drewN | apply Kd.Q_drew)); exact HO598.out) (Kd.R_base ho0) hb)
   replace HO606 := Aside0.mk (Kd.R_elder' (rl HO606.out) (Kd.R_base ho0) hb)
   replace HO613 := Aside0.mk (Kd.R_elder' (rl HO613.out) (Kd.R_base ho0) hb)
   have HO623 := Aside0.mk (Kd.R_lower (Kd.R_new' (Kd.R_new' (Kd.R_new' ho1 (Kd.R_lt (rl HO601.out))) (Kd.R_lt (rl HO609.out))) (Kd.R_lt (rl HO616.out))) (below_size (bs HB.out)))
   replace HO601 := Aside0.mk (Kd.R_elder' (rl HO601.out) (Kd.R_base ho1) hb)
   replace HO609 := Aside0.mk (Kd.R_elder' (rl HO609.out) (Kd.R_base ho1) hb)
   replace HO616 := Aside0.mk (Kd.R_elder' (rl HO616.out) (Kd.R_base ho1) hb)
   replace BK603 := bb BK603 hb rfl
   replace BK610 := bb BK610 hb rfl
   replace BK617 := bb BK617 hb rfl
   replace HB := hs HB hb
   (try clear hb)
   (try clear hb2)
   (try clear hk)
   (try clear hi)
   (try clear ho0)
   (try clear ho1)
   obtain ⟨Ao31, co31, eo31⟩ := Kd.R_slice HO620.out
   (first | subst eo31 | (injection eo31 with f1_ f2_ f3_; have f4_ := f1_.symm; have f5_ := f3_.symm; clear f1_ f2_ f3_; subst f4_; subst f5_))
   obtain ⟨Ao32, co32, eo32⟩ := Kd.R_slice HO623.out
   (first | subst eo32 | (injection eo32 with f1_ f2_ f3_; have f4_ := f1_.symm; have f5_ := f3_.symm; clear f1_ f2_ f3_; subst f4_; subst f5_))
   refine hK.out _ _ ⟨(blk_cell BK610.out 0).trans rfl, (blk_cell BK610.out 1).trans rfl, (blk_cell BK603.out 0).trans rfl, (blk_cell BK603.out 1).trans rfl⟩ (fun hHeld => ?_)
   clear hK K
   refine nrm 24 ?_
   refine one_ (i := 4) (N := some 25) #[true, true, true, true, true, false] rfl rfl (by kernel_rfl) (by decide) (fun K hK => ?_)
   refine gs Try.func41 #[.agg #[.slice Ao16 t604.length co16, .slice Ao19 t607.length co19], .agg #[.slice Ao31 t618.length co31, .slice Ao32 t621.length co32]] ?_
   with_reducible refine (impl_GraphSame.calls k _ _ t604 _ _ t607 _ _ t618 _ _ t621 true _ ?side1 ?side2 ?side3 ?side4 ?side5 ?side6 ?side7 ?side8 A7.out).mono ?_
   (case side1 => repeat (first | exact (Kd.R_reads' HO606.out).2.2 | (with_reducible refine Kd.C_alloc ?_ _) | (with_reducible refine Kd.C_drewN ?_ _) | (with_reducible refine Kd.C_drew ?_)))
   (case side2 => exact (Kd.R_reads' HO606.out).2.1)
   (case side3 => repeat (first | exact (Kd.R_reads' HO609.out).2.2 | (with_reducible refine Kd.C_alloc ?_ _) | (with_reducible refine Kd.C_drewN ?_ _) | (with_reducible refine Kd.C_drew ?_)))
   (case side4 => exact (Kd.R_reads' HO609.out).2.1)
   (case side5 => repeat (first | exact (Kd.R_reads' HO620.out).2.2 | (with_reducible refine Kd.C_alloc ?_ _) | (with_reducible refine Kd.C_drewN ?_ _) | (with_reducible refine Kd.C_drew ?_)))
   (case side6 => exact (Kd.R_reads' HO620.out).2.1)
   (case side7 => repeat (first | exact (Kd.R_reads' HO623.out).2.2 | (with_reducible refine Kd.C_alloc ?_ _) | (with_reducible refine Kd.C_drewN ?_ _) | (with_reducible refine Kd.C_drew ?_)))
   (case side8 => exact (Kd.R_reads' HO623.out).2.1)
   rintro e w33 ⟨rfl, hb⟩
   refine ⟨_, rfl, ?_⟩
   replace HO598 := Aside0.mk (Kd.Q_below (by (with_reducible repeat (first | apply Kd.Q_alloc | apply Kd.Q_drewN | apply Kd.Q_drew)); exact HO598.out) hb)
   replace HO601 := rb HO601 hb
   replace HO606 := rb HO606 hb
   replace HO609 := rb HO609 hb
   replace HO613 := rb HO613 hb
   replace HO616 := rb HO616 hb
   replace HO620 := rb HO620 hb
   replace HO623 := rb HO623 hb
   replace BK603 := bb BK603 hb rfl
   replace BK610 := bb BK610 hb rfl
   replace BK617 := bb BK617 hb rfl
   replace HB := hs HB hb
   (try clear hb)
   (try clear hb2)
   (try clear hk)
   (try clear hi)
   refine hK.out _ _ ⟨(blk_cell BK610.out 0).trans rfl, (blk_cell BK610.out 1).trans rfl, (blk_cell BK603.out 0).trans rfl, (blk_cell BK603.out 1).trans rfl⟩ (fun hHeld => ?_)
   clear hK K
   refine nrm 25 ?_
   refine pu 5 26 ?_
   refine done_ (by kernel_rfl) ?_
   try go_wp2
   go_loopg [7] k (fun kq v7 w' => ∃ (x7_1 : Int), v7 = .int .i64 x7_1 ∧ Aside0 (laws_FnGraphEmpty.l0 kq t602 x7_1 t611 t614 = some r) ∧ Aside0 (kq ≤ k) ∧ Aside0 (Kd.Q k36 36 w' w.heap.size (fun k_ => some k_ ≠ ((.slice Ao16 t604.length co16) : Value).ownBlock ∧ some k_ ≠ ((.slice Ao23 t611.length co23) : Value).ownBlock) (.slice Ao11 t596.length co11) t596) ∧ Aside0 (Kd.R k56 56 w' w.heap.size (fun k_ => some k_ ≠ ((.slice Ao19 t607.length co19) : Value).ownBlock ∧ some k_ ≠ ((.slice Ao27 t614.length co27) : Value).ownBlock) (.slice Ao13 t599.length co13) t599) ∧ Aside0 (Kd.R k36 36 w' w.heap.size (fun k_ => some k_ ≠ ((.slice Ao11 t596.length co11) : Value).ownBlock ∧ some k_ ≠ ((.slice Ao23 t611.length co23) : Value).ownBlock) (.slice Ao16 t604.length co16) t604) ∧ Aside0 (Kd.R k56 56 w' w.heap.size (fun k_ => some k_ ≠ ((.slice Ao13 t599.length co13) : Value).ownBlock ∧ some k_ ≠ ((.slice Ao27 t614.length co27) : Value).ownBlock) (.slice Ao19 t607.length co19) t607) ∧ Aside0 (Kd.R k36 36 w' w.heap.size (fun k_ => some k_ ≠ ((.slice Ao11 t596.length co11) : Value).ownBlock ∧ some k_ ≠ ((.slice Ao16 t604.length co16) : Value).ownBlock) (.slice Ao23 t611.length co23) t611) ∧ Aside0 (Kd.R k56 56 w' w.heap.size (fun k_ => some k_ ≠ ((.slice Ao13 t599.length co13) : Value).ownBlock ∧ some k_ ≠ ((.slice Ao19 t607.length co19) : Value).ownBlock) (.slice Ao27 t614.length co27) t614) ∧ Aside0 (w'.heap[gb603]? = some (.cells #[(.slice Ao11 t596.length co11), (.slice Ao13 t599.length co13)] 34 (0, 0))) ∧ Aside0 (w'.heap[gb610]? = some (.cells #[(.slice Ao16 t604.length co16), (.slice Ao19 t607.length co19)] 34 (0, 0))) ∧ Aside0 (w'.heap[gb617]? = some (.cells #[(.slice Ao23 t611.length co23), (.slice Ao27 t614.length co27)] 34 (0, 0))) ∧ Aside0 (Below w.heap.size w w'))
   case atStart => exact ⟨(0), (by first | rfl | (simp; done) | (simp [*]; done)), H', ⟨Nat.le_refl _⟩, ⟨by (with_reducible repeat (first | apply Kd.Q_alloc | apply Kd.Q_drewN | apply Kd.Q_drew)); exact Kd.Q_mono HO598.out (fun _ hk => ⟨hk.1.1, hk.1.2⟩)⟩, ⟨by (with_reducible repeat (first | apply Kd.R_alloc | apply Kd.R_drewN | apply Kd.R_drew)); exact Kd.R_mono HO601.out (fun _ hk => ⟨hk.1.1, hk.1.2⟩)⟩, ⟨by (with_reducible repeat (first | apply Kd.R_alloc | apply Kd.R_drewN | apply Kd.R_drew)); exact Kd.R_mono HO606.out (fun _ hk => ⟨hk.1.1, hk.1.2⟩)⟩, ⟨by (with_reducible repeat (first | apply Kd.R_alloc | apply Kd.R_drewN | apply Kd.R_drew)); exact Kd.R_mono HO609.out (fun _ hk => ⟨hk.1.1, hk.1.2⟩)⟩, ⟨by (with_reducible repeat (first | apply Kd.R_alloc | apply Kd.R_drewN | apply Kd.R_drew)); exact Kd.R_mono HO613.out (fun _ hk => ⟨hk.1.1, hk.1.2⟩)⟩, ⟨by (with_reducible repeat (first | apply Kd.R_alloc | apply Kd.R_drewN | apply Kd.R_drew)); exact Kd.R_mono HO616.out (fun _ hk => ⟨hk.1.1, hk.1.2⟩)⟩, ⟨bf BK603.out⟩, ⟨bf BK610.out⟩, ⟨bf BK617.out⟩, ⟨bs HB.out⟩⟩
   case round =>
    clear H'
    try clear c1
    try clear c2
    try clear c2b0
    try clear c2b1
    try clear p2
    try clear c3
    try clear c4
    try clear c8
    try clear c9
    try clear c17
    try clear c24
    try clear c25
    try clear hcz12_0 hcz12_1
    try clear hcz18_0 hcz18_1
    try clear hcz20_0 hcz20_1
    try clear hcz26_0 hcz26_1
    try clear hfz12
    try clear hfz18
    try clear hfz20
    try clear hfz26
    obtain ⟨x7_1, rfl, HA, HK1, HO_604000, HO_604001, HO_611000, HO_611001, HO_618000, HO_618001, BK603, BK610, BK617, HB⟩ := hrel
    cases gk with
    | zero => exact absurd HA.out (by simp [laws_FnGraphEmpty.l0])
    | succ k1 =>
     have H := HA.out
     clear HA
     simp only [laws_FnGraphEmpty.l0] at H
     by_cases c34 : x7_1 < (t614.length : Int)
     ·rw [if_pos c34] at H
      have c34b0 : decide (x7_1 < (t614.length : Int)) = true := decide_eq_true c34
      clear c34
      by_cases c35 : 0 ≤ x7_1
      ·rw [if_pos c35] at H
       have c35b0 : decide (0 ≤ x7_1) = true := decide_eq_true c35
       clear c35
       by_cases c36 : ((rd_T56 t614 x7_1).f0) = 0
       ·rw [if_pos c36] at H
        have c36b0 : (((rd_T56 t614 x7_1).f0) == 0) = true := beq_iff_eq.mpr c36
        have c36b1 : (((rd_T56 t614 x7_1).f0) != 0) = false := bne_eq_false_iff_eq.mpr c36
        clear c36
        by_cases c37 : ((rd_T56 t614 x7_1).f1.f0) = 0
        ·rw [if_pos c37] at H
         have c37b0 : (((rd_T56 t614 x7_1).f1.f0) == 0) = true := beq_iff_eq.mpr c37
         have c37b1 : (((rd_T56 t614 x7_1).f1.f0) != 0) = false := bne_eq_false_iff_eq.mpr c37
         clear c37
         have H' := Aside0.mk H
         clear H
         have hnb38 := NB617_603.out
         have hnc38 := NB603_617.out
         have hnb39 := NB617_610.out
         have hnc39 := NB610_617.out
         obtain ⟨hcz40_0, hcz40_1⟩ := bc2 (w := wr) BK617.out
         have hfz40 := blk_frozen BK617.out
         have p625 : 0 ≤ (x7_1 : Int) := of_decide_eq_true (by first | (with_reducible assumption) | assumption)
         have q625 : x7_1 < (t614.length : Int) := of_decide_eq_true (by first | (with_reducible assumption) | assumption)
         obtain ⟨ad625, e625, hx625_0, hx625_1, hx625_2, hx625_3, hx625_4⟩ := at_T56 (Kd.R_reads' HO_618001.out).2.2 x7_1 p625 q625
         cases e625
         replace p625 := eq_true p625
         replace q625 := eq_true q625
         have p626 : 0 ≤ (x7_1 : Int) := of_decide_eq_true (by first | (with_reducible assumption) | assumption)
         have q626 : x7_1 < (t614.length : Int) := of_decide_eq_true (by first | (with_reducible assumption) | assumption)
         obtain ⟨ad626, e626, hx626_0, hx626_1, hx626_2, hx626_3, hx626_4⟩ := at_T56 (Kd.R_reads' HO_618001.out).2.2 x7_1 p626 q626
         obtain rfl : ad625 = ad626 := (by injection e626)
         replace p626 := eq_true p626
         replace q626 := eq_true q626
         go_wp2
         go_roundg k1
         case measure => have := HK1.out; omega
         case rel => exact ⟨(wrap64 (x7_1 + 1)), (by first | rfl | (simp; done) | (simp [*]; done)), H', ⟨by have := HK1.out; omega⟩, ⟨by (with_reducible repeat (first | apply Kd.Q_alloc | apply Kd.Q_drewN | apply Kd.Q_drew)); exact HO_604000.out⟩, ⟨rl HO_604001.out⟩, ⟨rl HO_611000.out⟩, ⟨rl HO_611001.out⟩, ⟨rl HO_618000.out⟩, ⟨rl HO_618001.out⟩, ⟨bf BK603.out⟩, ⟨bf BK610.out⟩, ⟨bf BK617.out⟩, ⟨bs HB.out⟩⟩
        ·rw [if_neg c37] at H
         have c37b0 : (((rd_T56 t614 x7_1).f1.f0) == 0) = false := beq_eq_false_iff_ne.mpr c37
         have c37b1 : (((rd_T56 t614 x7_1).f1.f0) != 0) = true := bne_iff_ne.mpr c37
         exact absurd (Option.some.inj H) (by rw [hT.out]; decide)
       ·rw [if_neg c36] at H
        have c36b0 : (((rd_T56 t614 x7_1).f0) == 0) = false := beq_eq_false_iff_ne.mpr c36
        have c36b1 : (((rd_T56 t614 x7_1).f0) != 0) = true := bne_iff_ne.mpr c36
        exact absurd (Option.some.inj H) (by rw [hT.out]; decide)
      ·rw [if_neg c35] at H
       exact absurd H (by simp)
     ·rw [if_neg c34] at H
      have c34b0 : decide (x7_1 < (t614.length : Int)) = false := decide_eq_false c34
      clear c34
      replace H := Option.bind_eq_some_iff.mp H
      obtain ⟨⟨t627, t630⟩, A410, H⟩ := H
      try dsimp -simprocs only at H
      have A41 := Aside0.mk A410
      clear A410
      replace H := Option.bind_eq_some_iff.mp H
      obtain ⟨t633, A420, H⟩ := H
      try dsimp -simprocs only at H
      have A42 := Aside0.mk A420
      clear A420
      by_cases c43 : t633 = true
      ·subst c43
       have H1 : (if (t611.length : Int) ≤ 5 then (some (decide ((t614.length : Int) ≤ 7))) else (some false)) = some r := by rw [if_pos rfl] at H; exact H
       clear H
       have H := H1
       clear H1
       by_cases c44 : (t611.length : Int) ≤ 5
       ·rw [if_pos c44] at H
        have c44b0 : decide ((t611.length : Int) ≤ 5) = true := decide_eq_true c44
        have c44b1 : decide (t611.length ≤ 5) = true := decide_eq_true (by omega)
        clear c44
        obtain rfl := Option.some.inj H
        have hnb45 := NB617_603.out
        have hnc45 := NB603_617.out
        have hnb46 := NB617_610.out
        have hnc46 := NB610_617.out
        obtain ⟨hcz47_0, hcz47_1⟩ := bc2 (w := wr) BK617.out
        have hfz47 := blk_frozen BK617.out
        go_wp2_with (first | ((with_reducible refine gc (f := 36) rfl ?_); refine gl 53 Try.func36 #[.agg #[.slice none 0 0, .slice none 0 0], .int .i64 t602] ?_; (refine (impl_GraphView.calls k1 _ _ ([] : List (S36)) _ _ ([] : List (S56)) t602 t627 t630 _ ?side1 ?side2 ?side3 ?side4 A41.out).mono ?_); (case side1 => exact Kd.C_nil _ _); (case side2 => exact Nat.le_refl _); (case side3 => exact Kd.C_nil _ _); (case side4 => exact Nat.le_refl _); rintro e w48 ⟨v628, v631, rfl, ho0, ho1, hb⟩; refine ⟨_, rfl, ?_⟩; have HO629 := Aside0.mk (Kd.R_lower (Kd.R_new' (Kd.R_new' (Kd.R_new' ho0 (Kd.Q_lt (by (with_reducible repeat (first | apply Kd.Q_alloc | apply Kd.Q_drewN | apply Kd.Q_drew)); exact HO_604000.out))) (Kd.R_lt (rl HO_611000.out))) (Kd.R_lt (rl HO_618000.out))) (below_size (bs HB.out))); replace HO_604000 := Aside0.mk (Kd.Q_elder' (by (with_reducible repeat (first | apply Kd.Q_alloc | apply Kd.Q_drewN | apply Kd.Q_drew)); exact HO_604000.out) (Kd.R_base ho0) hb); replace HO_611000 := Aside0.mk (Kd.R_elder' (rl HO_611000.out) (Kd.R_base ho0) hb); replace HO_618000 := Aside0.mk (Kd.R_elder' (rl HO_618000.out) (Kd.R_base ho0) hb); have HO632 := Aside0.mk (Kd.R_lower (Kd.R_new' (Kd.R_new' (Kd.R_new' ho1 (Kd.R_lt (rl HO_604001.out))) (Kd.R_lt (rl HO_611001.out))) (Kd.R_lt (rl HO_618001.out))) (below_size (bs HB.out))); replace HO_604001 := Aside0.mk (Kd.R_elder' (rl HO_604001.out) (Kd.R_base ho1) hb); replace HO_611001 := Aside0.mk (Kd.R_elder' (rl HO_611001.out) (Kd.R_base ho1) hb); replace HO_618001 := Aside0.mk (Kd.R_elder' (rl HO_618001.out) (Kd.R_base ho1) hb); replace BK603 := bb BK603 hb rfl; replace BK610 := bb BK610 hb rfl; replace BK617 := bb BK617 hb rfl; replace HB := hs HB hb; (try clear hb); (try clear hb2); (try clear hk); (try clear hi); (try clear ho0); (try clear ho1); obtain ⟨Ao49, co49, eo49⟩ := Kd.R_slice HO629.out; subst eo49; obtain ⟨Ao50, co50, eo50⟩ := Kd.R_slice HO632.out; subst eo50) | ((with_reducible refine gc (f := 41) rfl ?_); refine gl 55 Try.func41 #[.agg #[.slice Ao49 t627.length co49, .slice Ao50 t630.length co50], .agg #[.slice none 0 0, .slice none 0 0]] ?_; (refine (impl_GraphSame.calls k1 _ _ t627 _ _ t630 _ _ ([] : List (S36)) _ _ ([] : List (S56)) true _ ?side1 ?side2 ?side3 ?side4 ?side5 ?side6 ?side7 ?side8 A42.out).mono ?_); (case side1 => repeat (first | exact (Kd.R_reads' HO629.out).2.2 | (with_reducible refine Kd.C_alloc ?_ _) | (with_reducible refine Kd.C_drewN ?_ _) | (with_reducible refine Kd.C_drew ?_))); (case side2 => exact (Kd.R_reads' HO629.out).2.1); (case side3 => repeat (first | exact (Kd.R_reads' HO632.out).2.2 | (with_reducible refine Kd.C_alloc ?_ _) | (with_reducible refine Kd.C_drewN ?_ _) | (with_reducible refine Kd.C_drew ?_))); (case side4 => exact (Kd.R_reads' HO632.out).2.1); (case side5 => exact Kd.C_nil _ _); (case side6 => exact Nat.le_refl _); (case side7 => exact Kd.C_nil _ _); (case side8 => exact Nat.le_refl _); rintro e w51 ⟨rfl, hb⟩; refine ⟨_, rfl, ?_⟩; replace HO_604000 := Aside0.mk (Kd.Q_below (by (with_reducible repeat (first | apply Kd.Q_alloc | apply Kd.Q_drewN | apply Kd.Q_drew)); exact HO_604000.out) hb); replace HO_604001 := rb HO_604001 hb; replace HO_611000 := rb HO_611000 hb; replace HO_611001 := rb HO_611001 hb; replace HO_618000 := rb HO_618000 hb; replace HO_618001 := rb HO_618001 hb; replace HO629 := rb HO629 hb; replace HO632 := rb HO632 hb; replace BK603 := bb BK603 hb rfl; replace BK610 := bb BK610 hb rfl; replace BK617 := bb BK617 hb rfl; replace HB := hs HB hb; (try clear hb); (try clear hb2); (try clear hk); (try clear hi); obtain ⟨hcz52_0, hcz52_1⟩ := bc2 (w := w51) BK617.out; have hfz52 := blk_frozen BK617.out))
        go_ret
        exact ⟨by first | rfl | (simp [*, errW_none, errW_some] <;> rfl), bs HB.out⟩
       ·rw [if_neg c44] at H
        have c44b0 : decide ((t611.length : Int) ≤ 5) = false := decide_eq_false c44
        have c44b1 : decide (t611.length ≤ 5) = false := decide_eq_false (by omega)
        clear c44
        exact absurd (Option.some.inj H) (by rw [hT.out]; decide)
      ·replace c43 := Bool.eq_false_iff.mpr c43
       subst c43
       have H1 : (some false) = some r := by rw [if_neg (show ¬ (false = true) by decide)] at H; exact H
       clear H
       have H := H1
       clear H1
       exact absurd (Option.some.inj H) (by rw [hT.out]; decide)
  ·replace c8 := Bool.eq_false_iff.mpr c8
   subst c8
   have H1 : (some false) = some r := by rw [if_neg (show ¬ (false = true) by decide)] at H; exact H
   clear H
   have H := H1
   clear H1
   exact absurd (Option.some.inj H) (by rw [hT.out]; decide)

end Go.Proofs.Ytohmemckdogljaa.QFnGraphEmpty
