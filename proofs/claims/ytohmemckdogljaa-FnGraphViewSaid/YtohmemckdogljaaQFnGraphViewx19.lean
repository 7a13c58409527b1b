/- Contracts of the Go functions that this law reaches: each does what its plain Lean function says. No condition. -/
import Derived.Test.YtohmemckdogljaaQFnGraphViewx0
import Derived.Test.YtohmemckdogljaaQFnGraphViewx4
import Derived.Test.YtohmemckdogljaaQFnGraphViewx5
import Derived.Test.YtohmemckdogljaaQFnGraphViewx6
import Derived.Test.YtohmemckdogljaaQFnGraphViewx7
import Derived.Test.YtohmemckdogljaaQFnGraphViewx8
import Derived.Test.YtohmemckdogljaaQFnGraphViewx18
namespace Go.Proofs.Ytohmemckdogljaa.QFnGraphView
open Go.RowKit Go.Proofs.YtohmemckdogljaaW.PrintWords Go.Proofs.YtohmemckdogljaaW.PrintLast Go.Proofs.YtohmemckdogljaaW.PrintMore Go.Proofs.Ytohmemckdogljaa.Bl
attribute [local go_sem] max2_int min2_int max_two min_two max_three min_three max_four min_four   -- for this text's walks alone
set_option linter.unusedVariables false
set_option linter.unusedSimpArgs false
set_option maxHeartbeats 8000000
set_option maxRecDepth 100000

/-! ### laws_FnGraphView: function 10 -/
mutual
def laws_FnGraphView.j0 : Nat → List Int → List Int → Bool → Option (Bool)
 | 0, _, _, _ => none
 | k + 1, x0, x1, x19 => if x19 = true then (some true) else ((spec_DrawGraphView.f k x0).bind fun bt598 => ((impl_GraphView.f k bt598.1 bt598.2.1 bt598.2.2).bind fun bt606 => ((spec_GraphView.f k bt598.1 bt598.2.1 bt598.2.2).bind fun bt613 => ((impl_GraphSame.f k bt606.1 bt606.2 bt613.1 bt613.2).bind fun t619 => (if t619 = true then ((spec_GraphOk.f k bt598.1 bt598.2.1).bind fun t620 => (if t620 = true then ((impl_LabelOk.f bt598.2.2).bind fun t621 => (laws_FnGraphView.j1 k x1 bt598.2.2 (!t621) bt598.1 bt598.2.1 bt606.1 bt606.2)) else (laws_FnGraphView.j1 k x1 bt598.2.2 true bt598.1 bt598.2.1 bt606.1 bt606.2))) else (some false))))))
def laws_FnGraphView.j1 : Nat → List Int → Int → Bool → List (S36) → List (S56) → List (S36) → List (S56) → Option (Bool)
 | 0, _, _, _, _, _, _, _ => none
 | k + 1, x1, x6, x41, x606000, x606001, x613000, x613001 => if x41 = true then ((impl_GraphSame.f k x613000 x613001 ([] : List (S36)) ([] : List (S56))).bind fun t622 => (some t622)) else (laws_FnGraphView.l0 k x1 x6 0 x606000 x606001 x613000 x613001)
def laws_FnGraphView.l0 : Nat → List Int → Int → Int → List (S36) → List (S56) → List (S36) → List (S56) → Option (Bool)
 | 0, _, _, _, _, _, _, _ => none
 | k + 1, x1, x6, x8, x606000, x606001, x613000, x613001 => if x8 < (x613000.length : Int) then (if 0 ≤ x8 then ((impl_LabelUnder.f ((rd_T36 x613000 x8).f0) x6).bind fun t624 => (if t624 = true then (laws_FnGraphView.l0 k x1 x6 (wrap64 (x8 + 1)) x606000 x606001 x613000 x613001) else (some false))) else (none)) else (laws_FnGraphView.l1 k x1 x6 0 0 x606000 x606001 x613000 x613001)
def laws_FnGraphView.l1 : Nat → List Int → Int → Int → Int → List (S36) → List (S56) → List (S36) → List (S56) → Option (Bool)
 | 0, _, _, _, _, _, _, _, _ => none
 | k + 1, x1, x6, x9, x10, x606000, x606001, x613000, x613001 => if x10 < (x606000.length : Int) then (if 0 ≤ x10 then ((impl_LabelUnder.f ((rd_T36 x606000 x10).f0) x6).bind fun t626 => (if t626 = true then (laws_FnGraphView.l1 k x1 x6 (wrap64 (x9 + 1)) (wrap64 (x10 + 1)) x606000 x606001 x613000 x613001) else (laws_FnGraphView.l1 k x1 x6 x9 (wrap64 (x10 + 1)) x606000 x606001 x613000 x613001))) else (none)) else ((impl_GraphOk.f k x613000 x613001).bind fun t627 => (if t627 = true then (if x9 = (x613000.length : Int) then ((impl_GraphView.f k x613000 x613001 ((x1.length : Int) % 8)).bind fun bt628 => ((impl_LabelMeet.f x6 ((x1.length : Int) % 8)).bind fun t634 => ((impl_GraphView.f k x606000 x606001 t634).bind fun bt635 => ((impl_GraphSame.f k bt628.1 bt628.2 bt635.1 bt635.2).bind fun t641 => (if t641 = true then ((impl_GraphView.f k x606000 x606001 7).bind fun bt642 => ((impl_GraphSame.f k bt642.1 bt642.2 x606000 x606001).bind fun t648 => (some t648))) else (some false)))))) else (some false)) else (some false)))
end
def laws_FnGraphView.f (k : Nat) (l0 : List Int) (l1 : List Int) : Option (Bool) := if (l0.length : Int) > 1048576 then (laws_FnGraphView.j0 k l0 l1 true) else (laws_FnGraphView.j0 k l0 l1 (decide ((l1.length : Int) > 1048576)))
def laws_FnGraphView.T21 : Bool × List (List Nat × List Nat) := (true, [([], []), ([0], [0]), ([1, 1], [1]), ([2], [2]), ([2], [2]), ([4, 2], [2, 4]), ([5, 2], [2, 5]), ([3, 6, 2], [2, 3, 6]), ([2, 7], [2, 7]), ([8, 2], [8]), ([9], [9]), ([9], [9]), ([10, 11, 9, 9], [9, 10, 11]), ([9], [9]), ([9], [9]), ([9], [9]), ([14, 15, 12, 9], [9, 14, 15]), ([13, 16, 16, 9], [9, 13, 16]), ([12, 17, 17, 9], [9, 12, 17]), ([9, 18], [9, 18]), ([19, 18], [19]), ([20], [20]), ([21, 20, 20], [20, 21]), ([20], [20]), ([22, 23, 22, 20], [20, 22, 23]), ([20, 24], [20, 24]), ([25, 24, 0, 1, 2, 3, 4, 5, 6, 7, 8, 9, 10, 11, 12, 13, 14, 15, 16, 17, 18, 19, 20, 21, 22, 23, 24, 25], [25])])
def laws_FnGraphView.B21 : List Nat := [0, 1, 3, 7, 7, 23, 55, 127, 255, 511, 1023, 1023, 4095, 1023, 1023, 1023, 57343, 131071, 262143, 524287, 1048575, 2097151, 4194303, 2097151, 16777215, 33554431, 67108863]
theorem laws_FnGraphView.tab21 : rtab .any (opsOf Try.f10 21) = laws_FnGraphView.T21 := by kernel_rfl
theorem laws_FnGraphView.bits21 : waitsOk laws_FnGraphView.T21.2 laws_FnGraphView.B21 = true := by kernel_rfl
theorem laws_FnGraphView.calls (k : Nat) (A0 : Option Addr) (c0 : Nat) (l0 : List Int) (A1 : Option Addr) (c1 : Nat) (l1 : List Int) (r : Bool) (hT : Aside0 (r = true)) (w : World) (hr0 : Kd.C (Kd.int .u8) w A0 l0.length l0) (hc0 : l0.length ≤ c0) (hr1 : Kd.C (Kd.int .u8) w A1 l1.length l1) (hc1 : l1.length ≤ c1) (h : laws_FnGraphView.f k l0 l1 = some r) :
  Calls Try.prog 10 #[.slice A0 l0.length c0, .slice A1 l1.length c1] w fun e w' => e = .returned (.bool r) ∧ Below w.heap.size w w' := by
 have hu34 := Try.underlying34
 have HR0 := Aside0.mk hr0
 have HC0 := Aside0.mk hc0
 clear hr0 hc0
 have HR1 := Aside0.mk hr1
 have HC1 := Aside0.mk hc1
 clear hr1 hc1
 have HB := Aside0.mk (Below.refl w.heap.size w)
 have H := h; unfold laws_FnGraphView.f at H
 clear h
 have HC3 := Aside0.mk H
 clear H
 go_enter Try.func10, Try.ntmps10
 go_upto_region 1 with (fail)
 go_cut [19] (fun v19 wc => ∃ (kq : Nat) (x19_2 : Bool), v19 = .bool x19_2 ∧ Aside0 (laws_FnGraphView.j0 kq l0 l1 x19_2 = some r) ∧ Aside0 (kq ≤ k) ∧ Aside0 (Below w.heap.size w wc))
 case first =>
  have H := HC3.out
  clear HC3
  by_cases c4 : (l0.length : Int) > 1048576
  ·rw [if_pos c4] at H
   have c4b0 : decide (1048576 < (l0.length : Int)) = true := decide_eq_true c4
   have c4b1 : decide (1048576 < l0.length) = true := decide_eq_true (by omega)
   clear c4
   (first | rw [c4b0] | (simp only [i64_w, i32_w]; rw [c4b0]) | skip)
   have H' := Aside0.mk H
   clear H
   go_wp2
   go_meet
   case rel => exact ⟨_, (true), eqs, H', ⟨by first | omega | exact Nat.le_refl _⟩, ⟨bs HB.out⟩⟩
  ·rw [if_neg c4] at H
   have c4b0 : decide (1048576 < (l0.length : Int)) = false := decide_eq_false c4
   have c4b1 : decide (1048576 < l0.length) = false := decide_eq_false (by omega)
   clear c4
   (first | rw [c4b0] | (simp only [i64_w, i32_w]; rw [c4b0]) | skip)
   have H' := Aside0.mk H
   clear H
   go_wp2
   go_meet
   case rel => exact ⟨_, (decide ((l1.length : Int) > 1048576)), eqs, H', ⟨by first | omega | exact Nat.le_refl _⟩, ⟨bs HB.out⟩⟩
 case rest =>
  clear HC3
  try clear c1
  try clear p2
  try clear c4
  try clear c4b0
  try clear c4b1
  obtain ⟨kq, x19_2, rfl, HA, HJ2, HB⟩ := hcut
  cases kq with
  | zero => exact absurd HA.out (by simp [laws_FnGraphView.j0])
  | succ kj2 =>
   have H := HA.out
   clear HA
   simp only [laws_FnGraphView.j0] at H
   by_cases c5 : x19_2 = true
   ·subst c5
    have H1 : (some true) = some r := by rw [if_pos rfl] at H; exact H
    clear H
    have H := H1
    clear H1
    obtain rfl := Option.some.inj H
    go_wp2
    go_ret
    exact ⟨eqr, bs HB.out⟩
   ·replace c5 := Bool.eq_false_iff.mpr c5
    subst c5
    have H1 : ((spec_DrawGraphView.f kj2 l0).bind fun bt598 => ((impl_GraphView.f kj2 bt598.1 bt598.2.1 bt598.2.2).bind fun bt606 => ((spec_GraphView.f kj2 bt598.1 bt598.2.1 bt598.2.2).bind fun bt613 => ((impl_GraphSame.f kj2 bt606.1 bt606.2 bt613.1 bt613.2).bind fun t619 => (if t619 = true then ((spec_GraphOk.f kj2 bt598.1 bt598.2.1).bind fun t620 => (if t620 = true then ((impl_LabelOk.f bt598.2.2).bind fun t621 => (laws_FnGraphView.j1 kj2 l1 bt598.2.2 (!t621) bt598.1 bt598.2.1 bt606.1 bt606.2)) else (laws_FnGraphView.j1 kj2 l1 bt598.2.2 true bt598.1 bt598.2.1 bt606.1 bt606.2))) else (some false)))))) = some r := by rw [if_neg (show ¬ (false = true) by decide)] at H; exact H
    clear H
    have H := H1
    clear H1
    replace H := Option.bind_eq_some_iff.mp H
    obtain ⟨⟨t598, t601, t604⟩, A60, H⟩ := H
    try dsimp -simprocs only at H
    have A6 := Aside0.mk A60
    clear A60
    replace H := Option.bind_eq_some_iff.mp H
    obtain ⟨⟨t606, t609⟩, A70, H⟩ := H
    try dsimp -simprocs only at H
    have A7 := Aside0.mk A70
    clear A70
    replace H := Option.bind_eq_some_iff.mp H
    obtain ⟨⟨t613, t616⟩, A80, H⟩ := H
    try dsimp -simprocs only at H
    have A8 := Aside0.mk A80
    clear A80
    replace H := Option.bind_eq_some_iff.mp H
    obtain ⟨t619, A90, H⟩ := H
    try dsimp -simprocs only at H
    have A9 := Aside0.mk A90
    clear A90
    by_cases c10 : t619 = true
    ·subst c10
     have H1 : ((spec_GraphOk.f kj2 t598 t601).bind fun t620 => (if t620 = true then ((impl_LabelOk.f t604).bind fun t621 => (laws_FnGraphView.j1 kj2 l1 t604 (!t621) t598 t601 t606 t609)) else (laws_FnGraphView.j1 kj2 l1 t604 true t598 t601 t606 t609))) = some r := by rw [if_pos rfl] at H; exact H
     clear H
     have H := H1
     clear H1
     have HC11 := Aside0.mk H
     clear H
     try go_wp2_with (first | ((with_reducible refine gc 45 rfl ?_); refine gl 22 Try.func45 #[.slice A0 l0.length c0] ?_; (with_reducible refine (spec_DrawGraphView.calls kj2 _ _ l0 t598 t601 t604 _ ?side1 ?side2 A6.out).mono ?_); (case side1 => exact Kd.C_below HR0.out (bs HB.out)); (case side2 => exact HC0.out); rintro e w12 ⟨v599, v602, rfl, ho0, ho1, hb⟩; refine ⟨_, rfl, ?_⟩; have HO600 := Aside0.mk (Kd.Q_lower ho0 (below_size (bs HB.out))); have HO603 := Aside0.mk (Kd.R_lower ho1 (below_size (bs HB.out))); replace HB := hs HB hb; (try clear ho0 ho1 hb)) | ((with_reducible refine gd 5 rfl ?_); refine bx 5 (cs := #[.slice none 0 0, .slice none 0 0]) (t := 34) ?_; intro gb605 hg w13 hbox hb; replace HO600 := Aside0.mk (Kd.Q_below (by (with_reducible repeat (first | apply Kd.Q_alloc | apply Kd.Q_drewN | apply Kd.Q_drew)); exact HO600.out) hb); replace HO603 := rb HO603 hb; have BK605 := Aside0.mk (hbox); have GW605 := gwb HB hg; replace HB := hs HB hb; clear hb hbox hg; obtain ⟨Ao14, co14, eo14, _⟩ := Kd.Q_slice HO600.out; subst eo14; obtain ⟨hcz15_0, hcz15_1⟩ := bc2 (w := w13) BK605.out; have hfz15 := blk_frozen BK605.out; obtain ⟨Ao16, co16, eo16⟩ := Kd.R_slice HO603.out; subst eo16) | ((with_reducible refine gc 36 rfl ?_); refine gl 27 Try.func36 #[.agg #[.slice Ao14 t598.length co14, .slice Ao16 t601.length co16], .int .i64 t604] ?_; (with_reducible refine (impl_GraphView.calls kj2 _ _ t598 _ _ t601 t604 t606 t609 _ ?side1 ?side2 ?side3 ?side4 A7.out).mono ?_); (case side1 => refine (Kd.Q_reads' (e := 36) (base := w.heap.size) (ok := fun k_ => True) (n := t598.length) (c := co14) ?_).2.2; exact (by (with_reducible repeat (first | apply Kd.Q_alloc | apply Kd.Q_drewN | apply Kd.Q_drew)); exact (Kd.Q_mono (Kd.Q_far (p := ⟨gb605, 1, none⟩) (Kd.Q_far (p := ⟨gb605, 0, none⟩) (Kd.Q_types HO600.out BK605.out (by decide)) (fun _ hk => hk.2) (.slice Ao14 t598.length co14)) (fun _ hk => hk.2) (.slice Ao16 t601.length co16)) (fun _ h_ => h_.1)))); (case side2 => exact (Kd.Q_reads' HO600.out).2.1); (case side3 => refine (Kd.R_reads' (e := 56) (base := w.heap.size) (ok := fun k_ => True) (n := t601.length) (c := co16) ?_).2.2; exact (by (with_reducible repeat (first | apply Kd.R_alloc | apply Kd.R_drewN | apply Kd.R_drew)); exact (rt HO603.out BK605.out (by decide)))); (case side4 => exact (Kd.R_reads' HO603.out).2.1); rintro e w17 ⟨v607, v610, rfl, ho0, ho1, hb⟩; refine ⟨_, rfl, ?_⟩; have HO608 := Aside0.mk (Kd.R_lower (Kd.R_new' ho0 (Kd.Q_lt (by (with_reducible repeat (first | apply Kd.Q_alloc | apply Kd.Q_drewN | apply Kd.Q_drew)); exact (Kd.Q_mono (Kd.Q_far (p := ⟨gb605, 1, none⟩) (Kd.Q_far (p := ⟨gb605, 0, none⟩) (Kd.Q_types HO600.out BK605.out (by decide)) (fun _ hk => hk.2) (.slice Ao14 t598.length co14)) (fun _ hk => hk.2) (.slice Ao16 t601.length co16)) (fun _ h_ => h_.1))))) (below_size (bs HB.out))); replace HO600 := Aside0.mk (Kd.Q_elder' (by (with_reducible repeat (first | apply Kd.Q_alloc | apply Kd.Q_drewN | apply Kd.Q_drew)); exact (Kd.Q_mono (Kd.Q_far (p := ⟨gb605, 1, none⟩) (Kd.Q_far (p := ⟨gb605, 0, none⟩) (Kd.Q_types HO600.out BK605.out (by decide)) (fun _ hk => hk.2) (.slice Ao14 t598.length co14)) (fun _ hk => hk.2) (.slice Ao16 t601.length co16)) (fun _ h_ => h_.1))) (Kd.R_base ho0) hb); have HO611 := Aside0.mk (Kd.R_lower (Kd.R_new' ho1 (Kd.R_lt (by (with_reducible repeat (first | apply Kd.R_alloc | apply Kd.R_drewN | apply Kd.R_drew)); exact (rt HO603.out BK605.out (by decide))))) (below_size (bs HB.out))); replace HO603 := Aside0.mk (Kd.R_elder' (by (with_reducible repeat (first | apply Kd.R_alloc | apply Kd.R_drewN | apply Kd.R_drew)); exact (rt HO603.out BK605.out (by decide))) (Kd.R_base ho1) hb); replace BK605 := bq #[.slice Ao14 t598.length co14, .slice Ao16 t601.length co16] BK605 hb; replace HB := hs HB hb; (try clear hb); (try clear hb2); (try clear hk); (try clear hi); (try clear ho0); (try clear ho1)) | ((with_reducible refine gd 7 rfl ?_); refine bx 7 (cs := #[.slice none 0 0, .slice none 0 0]) (t := 34) ?_; intro gb612 hg w18 hbox hb; replace HO600 := Aside0.mk (Kd.Q_below (by (with_reducible repeat (first | apply Kd.Q_alloc | apply Kd.Q_drewN | apply Kd.Q_drew)); exact HO600.out) hb); replace HO603 := rb HO603 hb; replace HO608 := rb HO608 hb; replace HO611 := rb HO611 hb; have BK612 := Aside0.mk (hbox); have GW612 := gwb HB hg; replace HB := hs HB hb; have NB605_612 := nq BK605 hg; have NB612_605 := nq' BK605 hg; replace BK605 := bb BK605 hb rfl; clear hb hbox hg; obtain ⟨Ao19, co19, eo19⟩ := Kd.R_slice HO608.out; subst eo19; have hnb20 := NB612_605.out; have hnc20 := NB605_612.out; obtain ⟨hcz21_0, hcz21_1⟩ := bc2 (w := w18) BK612.out; have hfz21 := blk_frozen BK612.out; obtain ⟨Ao22, co22, eo22⟩ := Kd.R_slice HO611.out; subst eo22))
     have n0_ : Aside0 (Kd.Q k36 36 ((w18.setCell ⟨gb612, 0, none⟩ (.slice Ao19 t606.length co19)).setCell ⟨gb612, 1, none⟩ (.slice Ao22 t609.length co22)) w.heap.size (fun k_ => some k_ ≠ (.slice Ao19 t606.length co19 : Value).ownBlock) (.slice Ao14 t598.length co14) t598) := ⟨by (with_reducible repeat (first | apply Kd.Q_alloc | apply Kd.Q_drewN | apply Kd.Q_drew)); exact Kd.Q_mono (Kd.Q_far (p := ⟨gb612, 1, none⟩) (Kd.Q_far (p := ⟨gb612, 0, none⟩) (Kd.Q_types HO600.out BK612.out (by decide)) (fun _ hk => hk.2) (.slice Ao19 t606.length co19)) (fun _ hk => hk.2) (.slice Ao22 t609.length co22)) (fun _ hk => hk.1.2)⟩
     have n1_ : Aside0 (Kd.R k56 56 ((w18.setCell ⟨gb612, 0, none⟩ (.slice Ao19 t606.length co19)).setCell ⟨gb612, 1, none⟩ (.slice Ao22 t609.length co22)) w.heap.size (fun k_ => some k_ ≠ (.slice Ao22 t609.length co22 : Value).ownBlock) (.slice Ao16 t601.length co16) t601) := ⟨Kd.R_mono (rt HO603.out BK612.out (by decide)) (fun _ hk => hk.2)⟩
     have n2_ : Aside0 (Kd.R k36 36 ((w18.setCell ⟨gb612, 0, none⟩ (.slice Ao19 t606.length co19)).setCell ⟨gb612, 1, none⟩ (.slice Ao22 t609.length co22)) w.heap.size (fun k_ => some k_ ≠ (.slice Ao14 t598.length co14 : Value).ownBlock) (.slice Ao19 t606.length co19) t606) := ⟨Kd.R_mono (rt HO608.out BK612.out (by decide)) (fun _ hk => hk.2)⟩
     have n3_ : Aside0 (Kd.R k56 56 ((w18.setCell ⟨gb612, 0, none⟩ (.slice Ao19 t606.length co19)).setCell ⟨gb612, 1, none⟩ (.slice Ao22 t609.length co22)) w.heap.size (fun k_ => some k_ ≠ (.slice Ao16 t601.length co16 : Value).ownBlock) (.slice Ao22 t609.length co22) t609) := ⟨Kd.R_mono (rt HO611.out BK612.out (by decide)) (fun _ hk => hk.2)⟩
     have n4_ : Aside0 (((w18.setCell ⟨gb612, 0, none⟩ (.slice Ao19 t606.length co19)).setCell ⟨gb612, 1, none⟩ (.slice Ao22 t609.length co22)).heap[gb605]? = some (.cells #[.slice Ao14 t598.length co14, .slice Ao16 t601.length co16] 34 (0, 0))) := ⟨bf BK605.out⟩
     have n5_ : Aside0 (((w18.setCell ⟨gb612, 0, none⟩ (.slice Ao19 t606.length co19)).setCell ⟨gb612, 1, none⟩ (.slice Ao22 t609.length co22)).heap[gb612]? = some (.cells #[.slice Ao19 t606.length co19, .slice Ao22 t609.length co22] 34 (0, 0))) := ⟨by (with_reducible repeat (first | refine blk_drewN ?_ _ | refine blk_drew ?_ | refine blk_alloc ?_ _)); refine blk_put (cs := #[.slice Ao19 t606.length co19, .slice none 0 0]) ?_ 1 _ rfl; (with_reducible repeat (first | refine blk_drewN ?_ _ | refine blk_drew ?_ | refine blk_alloc ?_ _)); refine blk_put (cs := #[.slice none 0 0, .slice none 0 0]) ?_ 0 _ rfl; exact bf BK612.out⟩
     have n6_ : Aside0 (Below w.heap.size w ((w18.setCell ⟨gb612, 0, none⟩ (.slice Ao19 t606.length co19)).setCell ⟨gb612, 1, none⟩ (.slice Ao22 t609.length co22))) := ⟨bs HB.out⟩
     (try clear HO600)
     (try clear HO603)
     (try clear HO608)
     (try clear HO611)
     (try clear BK605)
     (try clear BK612)
     (try clear HB)
     generalize ((w18.setCell ⟨gb612, 0, none⟩ (.slice Ao19 t606.length co19)).setCell ⟨gb612, 1, none⟩ (.slice Ao22 t609.length co22)) = w23 at n0_ n1_ n2_ n3_ n4_ n5_ n6_ ⊢
     have HO600 := n0_
     have HO603 := n1_
     have HO608 := n2_
     have HO611 := n3_
     have BK605 := n4_
     have BK612 := n5_
     have HB := n6_
     clear n0_ n1_ n2_ n3_ n4_ n5_ n6_
     replace HO600 := Aside0.mk (Kd.Q_drew HO600.out)
     replace HO603 := rd_ HO603
     replace HO608 := rd_ HO608
     replace HO611 := rd_ HO611
     replace BK605 := bd BK605
     replace BK612 := bd BK612
     replace HB := hd HB
     refine start_ (n := 6) (S := fun w' => w'.cell? ⟨gb612, 0, none⟩ = some (.slice Ao19 t606.length co19) ∧ w'.cell? ⟨gb612, 1, none⟩ = some (.slice Ao22 t609.length co22) ∧ w'.cell? ⟨gb605, 0, none⟩ = some (.slice Ao14 t598.length co14) ∧ w'.cell? ⟨gb605, 1, none⟩ = some (.slice Ao16 t601.length co16)) (ds := []) #[false, false, false, false, false, false] (by kernel_rfl) rfl rfl ⟨(blk_cell BK612.out 0).trans rfl, (blk_cell BK612.out 1).trans rfl, (blk_cell BK605.out 0).trans rfl, (blk_cell BK605.out 1).trans rfl⟩ (fun hHeld => ?_)
     generalize w23.drew = w24 at HO600 HO603 HO608 HO611 BK605 BK612 HB hHeld ⊢
     refine pu 2 30 ?_
     refine tk 0 28 ?_
     refine tk 1 29 ?_
     refine one_ (i := 3) (N := some 31) #[true, true, true, true, false, false] rfl rfl (by kernel_rfl) (by decide) (fun K hK => ?_)
     refine gs Try.func35 #[.agg #[.slice Ao14 t598.length co14, .slice Ao16 t601.length co16], .int .i64 t604] ?_
     with_reducible refine (spec_GraphView.calls kj2 _ _ t598 _ _ t601 t604 t613 t616 _ ?side1 ?side2 ?side3 ?side4 A8.out).mono ?_
     (case side1 => repeat (first | exact (Kd.Q_reads' HO600.out).2.2 | (with_reducible refine Kd.C_alloc ?_ _) | (with_reducible refine Kd.C_drewN ?_ _) | (with_reducible refine Kd.C_drew ?_)))
     (case side2 => exact (Kd.Q_reads' HO600.out).2.1)
     (case side3 => exact cr HO603)
     (case side4 => exact (Kd.R_reads' HO603.out).2.1)
     rintro e w25 ⟨v614, v617, rfl, ho0, ho1, hb⟩
     refine ⟨_, rfl, ?_⟩
     have HO615 := Aside0.mk (Kd.R_lower (Kd.R_new' (Kd.R_new' ho0 (Kd.Q_lt (by (with_reducible repeat (first | apply Kd.Q_alloc | apply Kd.Q_drewN | apply Kd.Q_drew)); exact HO600.out))) (Kd.R_lt (rl HO608.out))) (below_size (bs HB.out)))
     replace HO600 := Aside0.mk (Kd.Q_elder' (by (with_reducible repeat (first | apply Kd.Q_alloc | apply Kd.Q_drewN | apply Kd.Q_drew)); exact HO600.out) (Kd.R_base ho0) hb)
     replace HO608 := Aside0.mk (Kd.R_elder' (rl HO608.out) (Kd.R_base ho0) hb)
     have HO618 := Aside0.mk (Kd.R_lower (Kd.R_new' (Kd.R_new' ho1 (Kd.R_lt (rl HO603.out))) (Kd.R_lt (rl HO611.out))) (below_size (bs HB.out)))
     replace HO603 := Aside0.mk (Kd.R_elder' (rl HO603.out) (Kd.R_base ho1) hb)
     replace HO611 := Aside0.mk (Kd.R_elder' (rl HO611.out) (Kd.R_base ho1) hb)
     replace BK605 := bb BK605 hb rfl
     replace BK612 := bb BK612 hb rfl
     replace HB := hs HB hb
     (try clear hb)
     (try clear hb2)
     (try clear hk)
     (try clear hi)
     (try clear ho0)
     (try clear ho1)
     obtain ⟨Ao26, co26, eo26⟩ := Kd.R_slice HO615.out
     (first | subst eo26 | (injection eo26 with f1_ f2_ f3_; have f4_ := f1_.symm; have f5_ := f3_.symm; clear f1_ f2_ f3_; subst f4_; subst f5_))
     obtain ⟨Ao27, co27, eo27⟩ := Kd.R_slice HO618.out
     (first | subst eo27 | (injection eo27 with f1_ f2_ f3_; have f4_ := f1_.symm; have f5_ := f3_.symm; clear f1_ f2_ f3_; subst f4_; subst f5_))
     refine hK.out _ _ ⟨(blk_cell BK612.out 0).trans rfl, (blk_cell BK612.out 1).trans rfl, (blk_cell BK605.out 0).trans rfl, (blk_cell BK605.out 1).trans rfl⟩ (fun hHeld => ?_)
     clear hK K
     refine nrm 31 ?_
     refine one_ (i := 4) (N := some 32) #[true, true, true, true, true, false] rfl rfl (by kernel_rfl) (by decide) (fun K hK => ?_)
     refine gs Try.func41 #[.agg #[.slice Ao19 t606.length co19, .slice Ao22 t609.length co22], .agg #[.slice Ao26 t613.length co26, .slice Ao27 t616.length co27]] ?_
     with_reducible refine (impl_GraphSame.calls kj2 _ _ t606 _ _ t609 _ _ t613 _ _ t616 true _ ?side1 ?side2 ?side3 ?side4 ?side5 ?side6 ?side7 ?side8 A9.out).mono ?_
     (case side1 => exact cr HO608)
     (case side2 => exact (Kd.R_reads' HO608.out).2.1)
     (case side3 => exact cr HO611)
     (case side4 => exact (Kd.R_reads' HO611.out).2.1)
     (case side5 => exact cr HO615)
     (case side6 => exact (Kd.R_reads' HO615.out).2.1)
     (case side7 => exact cr HO618)
     (case side8 => exact (Kd.R_reads' HO618.out).2.1)
     rintro e w28 ⟨rfl, hb⟩
     refine ⟨_, rfl, ?_⟩
     replace HO600 := Aside0.mk (Kd.Q_below (by (with_reducible repeat (first | apply Kd.Q_alloc | apply Kd.Q_drewN | apply Kd.Q_drew)); exact HO600.out) hb)
     replace HO603 := rb HO603 hb
     replace HO608 := rb HO608 hb
     replace HO611 := rb HO611 hb
     replace HO615 := rb HO615 hb
     replace HO618 := rb HO618 hb
     replace BK605 := bb BK605 hb rfl
     replace BK612 := bb BK612 hb rfl
     replace HB := hs HB hb
     (try clear hb)
     (try clear hb2)
     (try clear hk)
     (try clear hi)
     refine hK.out _ _ ⟨(blk_cell BK612.out 0).trans rfl, (blk_cell BK612.out 1).trans rfl, (blk_cell BK605.out 0).trans rfl, (blk_cell BK605.out 1).trans rfl⟩ (fun hHeld => ?_)
     clear hK K
     refine nrm 32 ?_
     refine pu 5 33 ?_
     refine done_ (by kernel_rfl) ?_
     go_upto_region 7 with (fail)
     go_cut [41] (fun v41 wc => ∃ (kq : Nat) (x41_10 : Bool), v41 = .bool x41_10 ∧ Aside0 (laws_FnGraphView.j1 kq l1 t604 x41_10 t598 t601 t606 t609 = some r) ∧ Aside0 (kq ≤ kj2) ∧ Aside0 (Kd.Q k36 36 wc w.heap.size (fun k_ => some k_ ≠ ((.slice Ao19 t606.length co19) : Value).ownBlock) (.slice Ao14 t598.length co14) t598) ∧ Aside0 (Kd.R k56 56 wc w.heap.size (fun k_ => some k_ ≠ ((.slice Ao22 t609.length co22) : Value).ownBlock) (.slice Ao16 t601.length co16) t601) ∧ Aside0 (Kd.R k36 36 wc w.heap.size (fun k_ => some k_ ≠ ((.slice Ao14 t598.length co14) : Value).ownBlock) (.slice Ao19 t606.length co19) t606) ∧ Aside0 (Kd.R k56 56 wc w.heap.size (fun k_ => some k_ ≠ ((.slice Ao16 t601.length co16) : Value).ownBlock) (.slice Ao22 t609.length co22) t609) ∧ Aside0 (wc.heap[gb605]? = some (.cells #[(.slice Ao14 t598.length co14), (.slice Ao16 t601.length co16)] 34 (0, 0))) ∧ Aside0 (wc.heap[gb612]? = some (.cells #[(.slice Ao19 t606.length co19), (.slice Ao22 t609.length co22)] 34 (0, 0))) ∧ Aside0 (Below w.heap.size w wc))
     case first =>
      have H := HC11.out
      clear HC11
      replace H := Option.bind_eq_some_iff.mp H
      obtain ⟨t620, A290, H⟩ := H
      try dsimp -simprocs only at H
      have A29 := Aside0.mk A290
      clear A290
      by_cases c30 : t620 = true
      ·subst c30
       have H1 : ((impl_LabelOk.f t604).bind fun t621 => (laws_FnGraphView.j1 kj2 l1 t604 (!t621) t598 t601 t606 t609)) = some r := by rw [if_pos rfl] at H; exact H
       clear H
       have H := H1
       clear H1
       replace H := Option.bind_eq_some_iff.mp H
       obtain ⟨t621, A310, H⟩ := H
       try dsimp -simprocs only at H
       have A31 := Aside0.mk A310
       clear A310
       have H' := Aside0.mk H
       clear H
       have hnb32 := NB605_612.out
       have hnc32 := NB612_605.out
       obtain ⟨hcz33_0, hcz33_1⟩ := bc2 (w := w28) BK605.out
       have hfz33 := blk_frozen BK605.out
       go_wp2_with (first | ((with_reducible refine gc 33 rfl ?_); refine gl 35 Try.func33 #[.agg #[.slice Ao14 t598.length co14, .slice Ao16 t601.length co16]] ?_; (with_reducible refine (spec_GraphOk.calls kj2 _ _ t598 _ _ t601 true _ ?side1 ?side2 ?side3 ?side4 A29.out).mono ?_); (case side1 => repeat (first | exact (Kd.Q_reads' HO600.out).2.2 | (with_reducible refine Kd.C_alloc ?_ _) | (with_reducible refine Kd.C_drewN ?_ _) | (with_reducible refine Kd.C_drew ?_))); (case side2 => exact (Kd.Q_reads' HO600.out).2.1); (case side3 => exact cr HO603); (case side4 => exact (Kd.R_reads' HO603.out).2.1); rintro e w34 ⟨rfl, hb⟩; refine ⟨_, rfl, ?_⟩; replace HO600 := Aside0.mk (Kd.Q_below (by (with_reducible repeat (first | apply Kd.Q_alloc | apply Kd.Q_drewN | apply Kd.Q_drew)); exact HO600.out) hb); replace HO603 := rb HO603 hb; replace HO608 := rb HO608 hb; replace HO611 := rb HO611 hb; replace HO615 := rb HO615 hb; replace HO618 := rb HO618 hb; replace BK605 := bb BK605 hb rfl; replace BK612 := bb BK612 hb rfl; replace HB := hs HB hb; (try clear hb); (try clear hb2); (try clear hk); (try clear hi)) | (go_at_call 46; (with_reducible refine (impl_LabelOk.calls t604 t621 _ A31.out).mono ?_); rintro e w' ⟨rfl, ⟨nd, rfl⟩⟩))
       go_meet
       case rel => exact ⟨_, (!t621), eqs, H', ⟨by have := HJ2.out; first | omega | exact Nat.le_refl _⟩, ⟨by (with_reducible repeat (first | apply Kd.Q_alloc | apply Kd.Q_drewN | apply Kd.Q_drew)); exact Kd.Q_mono HO600.out (fun _ hk => hk.1)⟩, ⟨by (with_reducible repeat (first | apply Kd.R_alloc | apply Kd.R_drewN | apply Kd.R_drew)); exact Kd.R_mono HO603.out (fun _ hk => hk.1)⟩, ⟨by (with_reducible repeat (first | apply Kd.R_alloc | apply Kd.R_drewN | apply Kd.R_drew)); exact Kd.R_mono HO608.out (fun _ hk => hk.1)⟩, ⟨by (with_reducible repeat (first | apply Kd.R_alloc | apply Kd.R_drewN | apply Kd.R_drew)); exact Kd.R_mono HO611.out (fun _ hk => hk.1)⟩, ⟨bf BK605.out⟩, ⟨bf BK612.out⟩, ⟨bs HB.out⟩⟩
      ·replace c30 := Bool.eq_false_iff.mpr c30
       subst c30
       have H1 : (laws_FnGraphView.j1 kj2 l1 t604 true t598 t601 t606 t609) = some r := by rw [if_neg (show ¬ (false = true) by decide)] at H; exact H
       clear H
       have H := H1
       clear H1
       have H' := Aside0.mk H
       clear H
       have hnb35 := NB605_612.out
       have hnc35 := NB612_605.out
       obtain ⟨hcz36_0, hcz36_1⟩ := bc2 (w := w28) BK605.out
       have hfz36 := blk_frozen BK605.out
       go_wp2_with (first | ((with_reducible refine gc 33 rfl ?_); refine gl 35 Try.func33 #[.agg #[.slice Ao14 t598.length co14, .slice Ao16 t601.length co16]] ?_; (with_reducible refine (spec_GraphOk.calls kj2 _ _ t598 _ _ t601 false _ ?side1 ?side2 ?side3 ?side4 A29.out).mono ?_); (case side1 => repeat (first | exact (Kd.Q_reads' HO600.out).2.2 | (with_reducible refine Kd.C_alloc ?_ _) | (with_reducible refine Kd.C_drewN ?_ _) | (with_reducible refine Kd.C_drew ?_))); (case side2 => exact (Kd.Q_reads' HO600.out).2.1); (case side3 => exact cr HO603); (case side4 => exact (Kd.R_reads' HO603.out).2.1); rintro e w37 ⟨rfl, hb⟩; refine ⟨_, rfl, ?_⟩; replace HO600 := Aside0.mk (Kd.Q_below (by (with_reducible repeat (first | apply Kd.Q_alloc | apply Kd.Q_drewN | apply Kd.Q_drew)); exact HO600.out) hb); replace HO603 := rb HO603 hb; replace HO608 := rb HO608 hb; replace HO611 := rb HO611 hb; replace HO615 := rb HO615 hb; replace HO618 := rb HO618 hb; replace BK605 := bb BK605 hb rfl; replace BK612 := bb BK612 hb rfl; replace HB := hs HB hb; (try clear hb); (try clear hb2); (try clear hk); (try clear hi)))
       go_meet
       case rel => exact ⟨_, (true), eqs, H', ⟨by have := HJ2.out; first | omega | exact Nat.le_refl _⟩, ⟨by (with_reducible repeat (first | apply Kd.Q_alloc | apply Kd.Q_drewN | apply Kd.Q_drew)); exact Kd.Q_mono HO600.out (fun _ hk => hk.1)⟩, ⟨by (with_reducible repeat (first | apply Kd.R_alloc | apply Kd.R_drewN | apply Kd.R_drew)); exact Kd.R_mono HO603.out (fun _ hk => hk.1)⟩, ⟨by (with_reducible repeat (first | apply Kd.R_alloc | apply Kd.R_drewN | apply Kd.R_drew)); exact Kd.R_mono HO608.out (fun _ hk => hk.1)⟩, ⟨by (with_reducible repeat (first | apply Kd.R_alloc | apply Kd.R_drewN | apply Kd.R_drew)); exact Kd.R_mono HO611.out (fun _ hk => hk.1)⟩, ⟨bf BK605.out⟩, ⟨bf BK612.out⟩, ⟨bs HB.out⟩⟩
     case rest =>
      clear HC11
      try clear c1
      try clear c2
      try clear p2
      try clear c3
      try clear c4
      try clear c4b0
      try clear c4b1
      try clear c5
      try clear c10
      try clear c20
      try clear c30
      try clear c32
      try clear c33
      try clear c35
      try clear c36
      try clear hcz15_0 hcz15_1
      try clear hcz21_0 hcz21_1
      try clear hcz33_0 hcz33_1
      try clear hcz36_0 hcz36_1
      try clear hfz15
      try clear hfz21
      try clear hfz33
      try clear hfz36
      try clear p2
      obtain ⟨kq, x41_10, rfl, HA, HJ10, HO_606000, HO_606001, HO_613000, HO_613001, BK605, BK612, HB⟩ := hcut
      cases kq with
      | zero => exact absurd HA.out (by simp [laws_FnGraphView.j1])
      | succ kj10 =>
       have H := HA.out
       clear HA
       simp only [laws_FnGraphView.j1] at H
       by_cases c38 : x41_10 = true
       ·subst c38
        have H1 : ((impl_GraphSame.f kj10 t606 t609 ([] : List (S36)) ([] : List (S56))).bind fun t622 => (some t622)) = some r := by rw [if_pos rfl] at H; exact H
        clear H
        have H := H1
        clear H1
        replace H := Option.bind_eq_some_iff.mp H
        obtain ⟨t622, A390, H⟩ := H
        try dsimp -simprocs only at H
        have A39 := Aside0.mk A390
        clear A390
        obtain rfl := Option.some.inj H
        have hnb40 := NB612_605.out
        have hnc40 := NB605_612.out
        obtain ⟨hcz41_0, hcz41_1⟩ := bc2 (w := wc) BK612.out
        have hfz41 := blk_frozen BK612.out
        go_wp2_with (first | ((with_reducible refine gc 41 rfl ?_); refine gl 44 Try.func41 #[.agg #[.slice Ao19 t606.length co19, .slice Ao22 t609.length co22], .agg #[.slice none 0 0, .slice none 0 0]] ?_; (refine (impl_GraphSame.calls kj10 _ _ t606 _ _ t609 _ _ ([] : List (S36)) _ _ ([] : List (S56)) t622 _ ?side1 ?side2 ?side3 ?side4 ?side5 ?side6 ?side7 ?side8 A39.out).mono ?_); (case side1 => exact cr HO_613000); (case side2 => exact (Kd.R_reads' HO_613000.out).2.1); (case side3 => exact cr HO_613001); (case side4 => exact (Kd.R_reads' HO_613001.out).2.1); (case side5 => exact Kd.C_nil _ _); (case side6 => exact Nat.le_refl _); (case side7 => exact Kd.C_nil _ _); (case side8 => exact Nat.le_refl _); rintro e w42 ⟨rfl, hb⟩; refine ⟨_, rfl, ?_⟩; replace HO_606000 := Aside0.mk (Kd.Q_below (by (with_reducible repeat (first | apply Kd.Q_alloc | apply Kd.Q_drewN | apply Kd.Q_drew)); exact HO_606000.out) hb); replace HO_606001 := rb HO_606001 hb; replace HO_613000 := rb HO_613000 hb; replace HO_613001 := rb HO_613001 hb; replace BK605 := bb BK605 hb rfl; replace BK612 := bb BK612 hb rfl; replace HB := hs HB hb; (try clear hb); (try clear hb2); (try clear hk); (try clear hi)))
        go_ret
        exact ⟨eqr, bs HB.out⟩
       ·replace c38 := Bool.eq_false_iff.mpr c38
        subst c38
        have H1 : (laws_FnGraphView.l0 kj10 l1 t604 0 t598 t601 t606 t609) = some r := by rw [if_neg (show ¬ (false = true) by decide)] at H; exact H
        clear H
        have H := H1
        clear H1
        have H' := Aside0.mk H
        clear H
        go_wp2
        go_loopg [8] kj10 (fun kq v8 w' => ∃ (x8_3 : Int), v8 = .int .i64 x8_3 ∧ Aside0 (laws_FnGraphView.l0 kq l1 t604 x8_3 t598 t601 t606 t609 = some r) ∧ Aside0 (kq ≤ kj10) ∧ Aside0 (Kd.Q k36 36 w' w.heap.size (fun k_ => some k_ ≠ ((.slice Ao19 t606.length co19) : Value).ownBlock) (.slice Ao14 t598.length co14) t598) ∧ Aside0 (Kd.R k56 56 w' w.heap.size (fun k_ => some k_ ≠ ((.slice Ao22 t609.length co22) : Value).ownBlock) (.slice Ao16 t601.length co16) t601) ∧ Aside0 (Kd.R k36 36 w' w.heap.size (fun k_ => some k_ ≠ ((.slice Ao14 t598.length co14) : Value).ownBlock) (.slice Ao19 t606.length co19) t606) ∧ Aside0 (Kd.R k56 56 w' w.heap.size (fun k_ => some k_ ≠ ((.slice Ao16 t601.length co16) : Value).ownBlock) (.slice Ao22 t609.length co22) t609) ∧ Aside0 (w'.heap[gb605]? = some (.cells #[(.slice Ao14 t598.length co14), (.slice Ao16 t601.length co16)] 34 (0, 0))) ∧ Aside0 (w'.heap[gb612]? = some (.cells #[(.slice Ao19 t606.length co19), (.slice Ao22 t609.length co22)] 34 (0, 0))) ∧ Aside0 (Below w.heap.size w w'))
        case atStart => exact ⟨(0), eqs, H', ⟨Nat.le_refl _⟩, ⟨by (with_reducible repeat (first | apply Kd.Q_alloc | apply Kd.Q_drewN | apply Kd.Q_drew)); exact HO_606000.out⟩, ⟨rl HO_606001.out⟩, ⟨rl HO_613000.out⟩, ⟨rl HO_613001.out⟩, ⟨bf BK605.out⟩, ⟨bf BK612.out⟩, ⟨bs HB.out⟩⟩
        case round =>
         clear H'
         try clear c1
         try clear c2
         try clear p2
         try clear c3
         try clear c4
         try clear c4b0
         try clear c4b1
         try clear c5
         try clear c10
         try clear c20
         try clear c30
         try clear c32
         try clear c33
         try clear c35
         try clear c36
         try clear c38
         try clear c40
         try clear c41
         try clear hcz15_0 hcz15_1
         try clear hcz21_0 hcz21_1
         try clear hcz33_0 hcz33_1
         try clear hcz36_0 hcz36_1
         try clear hcz41_0 hcz41_1
         try clear hfz15
         try clear hfz21
         try clear hfz33
         try clear hfz36
         try clear hfz41
         try clear p2
         obtain ⟨x8_3, rfl, HA, HK3, HO_606000, HO_606001, HO_613000, HO_613001, BK605, BK612, HB⟩ := hrel
         cases gk with
         | zero => exact absurd HA.out (by simp [laws_FnGraphView.l0])
         | succ k3 =>
          have H := HA.out
          clear HA
          simp only [laws_FnGraphView.l0] at H
          by_cases c43 : x8_3 < (t606.length : Int)
          ·rw [if_pos c43] at H
           have c43b0 : decide (x8_3 < (t606.length : Int)) = true := decide_eq_true c43
           clear c43
           by_cases c44 : 0 ≤ x8_3
           ·rw [if_pos c44] at H
            have c44b0 : decide (0 ≤ x8_3) = true := decide_eq_true c44
            clear c44
            replace H := Option.bind_eq_some_iff.mp H
            obtain ⟨t624, A450, H⟩ := H
            try dsimp -simprocs only at H
            have A45 := Aside0.mk A450
            clear A450
            by_cases c46 : t624 = true
            ·subst c46
             have H1 : (laws_FnGraphView.l0 k3 l1 t604 (wrap64 (x8_3 + 1)) t598 t601 t606 t609) = some r := by rw [if_pos rfl] at H; exact H
             clear H
             have H := H1
             clear H1
             have H' := Aside0.mk H
             clear H
             have hnb47 := NB612_605.out
             have hnc47 := NB605_612.out
             obtain ⟨hcz48_0, hcz48_1⟩ := bc2 (w := wr) BK612.out
             have hfz48 := blk_frozen BK612.out
             have p623 : 0 ≤ (x8_3 : Int) := oda
             have q623 : x8_3 < (t606.length : Int) := oda
             obtain ⟨ad623, e623, hx623_0, hx623_1⟩ := at_T36 (Kd.R_reads' HO_613000.out).2.2 x8_3 p623 q623
             cases e623
             replace p623 := eq_true p623
             replace q623 := eq_true q623
             go_wp2_with (first | ((with_reducible refine gc 47 rfl ?_); refine gl 59 Try.func47 #[.int .i64 ((rd_T36 t606 x8_3).f0), .int .i64 t604] ?_; (with_reducible refine (impl_LabelUnder.calls ((rd_T36 t606 x8_3).f0) t604 true _ A45.out).mono ?_); rintro e w' ⟨rfl, ⟨nd, rfl⟩⟩; refine ⟨_, rfl, ?_⟩))
             go_roundg k3
             case measure => have := HJ2.out; have := HJ10.out; have := HK3.out; omega
             case rel => exact ⟨(wrap64 (x8_3 + 1)), eqs, H', ⟨by have := HJ2.out; have := HJ10.out; have := HK3.out; omega⟩, ⟨by (with_reducible repeat (first | apply Kd.Q_alloc | apply Kd.Q_drewN | apply Kd.Q_drew)); exact HO_606000.out⟩, ⟨rl HO_606001.out⟩, ⟨rl HO_613000.out⟩, ⟨rl HO_613001.out⟩, ⟨bf BK605.out⟩, ⟨bf BK612.out⟩, ⟨bs HB.out⟩⟩
            ·replace c46 := Bool.eq_false_iff.mpr c46
             subst c46
             have H1 : (some false) = some r := by rw [if_neg (show ¬ (false = true) by decide)] at H; exact H
             clear H
             have H := H1
             clear H1
             exact absurd (Option.some.inj H) (by rw [hT.out]; decide)
           ·rw [if_neg c44] at H
            exact absurd H (by simp)
          ·rw [if_neg c43] at H
           have c43b0 : decide (x8_3 < (t606.length : Int)) = false := decide_eq_false c43
           clear c43
           have H' := Aside0.mk H
           clear H
           have hnb49 := NB612_605.out
           have hnc49 := NB605_612.out
           obtain ⟨hcz50_0, hcz50_1⟩ := bc2 (w := wr) BK612.out
           have hfz50 := blk_frozen BK612.out
           go_wp2
           go_loopg [9, 10] k3 (fun kq v9 v10 w' => ∃ (x9_4 : Int) (x10_4 : Int), v9 = .int .i64 x9_4 ∧ v10 = .int .i64 x10_4 ∧ Aside0 (laws_FnGraphView.l1 kq l1 t604 x9_4 x10_4 t598 t601 t606 t609 = some r) ∧ Aside0 (kq ≤ k3) ∧ Aside0 (Kd.Q k36 36 w' w.heap.size (fun k_ => some k_ ≠ ((.slice Ao19 t606.length co19) : Value).ownBlock) (.slice Ao14 t598.length co14) t598) ∧ Aside0 (Kd.R k56 56 w' w.heap.size (fun k_ => some k_ ≠ ((.slice Ao22 t609.length co22) : Value).ownBlock) (.slice Ao16 t601.length co16) t601) ∧ Aside0 (Kd.R k36 36 w' w.heap.size (fun k_ => some k_ ≠ ((.slice Ao14 t598.length co14) : Value).ownBlock) (.slice Ao19 t606.length co19) t606) ∧ Aside0 (Kd.R k56 56 w' w.heap.size (fun k_ => some k_ ≠ ((.slice Ao16 t601.length co16) : Value).ownBlock) (.slice Ao22 t609.length co22) t609) ∧ Aside0 (w'.heap[gb605]? = some (.cells #[(.slice Ao14 t598.length co14), (.slice Ao16 t601.length co16)] 34 (0, 0))) ∧ Aside0 (w'.heap[gb612]? = some (.cells #[(.slice Ao19 t606.length co19), (.slice Ao22 t609.length co22)] 34 (0, 0))) ∧ Aside0 (Below w.heap.size w w'))
           case atStart => exact ⟨(0), (0), eqs, eqs, H', ⟨Nat.le_refl _⟩, ⟨by (with_reducible repeat (first | apply Kd.Q_alloc | apply Kd.Q_drewN | apply Kd.Q_drew)); exact HO_606000.out⟩, ⟨rl HO_606001.out⟩, ⟨rl HO_613000.out⟩, ⟨rl HO_613001.out⟩, ⟨bf BK605.out⟩, ⟨bf BK612.out⟩, ⟨bs HB.out⟩⟩
           case round =>
            clear H'
            try clear c1
            try clear c2
            try clear p2
            try clear c3
            try clear c4
            try clear c4b0
            try clear c4b1
            try clear c5
            try clear p6
            try clear q6
            try clear hx6
            try clear c10
            try clear c20
            try clear c30
            try clear c32
            try clear c33
            try clear c35
            try clear c36
            try clear c38
            try clear c40
            try clear c41
            try clear c43
            try clear c43b0
            try clear c44
            try clear c44b0
            try clear c45
            try clear c46
            try clear c47
            try clear c49
            try clear hcz15_0 hcz15_1
            try clear hcz21_0 hcz21_1
            try clear hcz33_0 hcz33_1
            try clear hcz36_0 hcz36_1
            try clear hcz41_0 hcz41_1
            try clear hcz48_0 hcz48_1
            try clear hcz50_0 hcz50_1
            try clear hfz15
            try clear hfz21
            try clear hfz33
            try clear hfz36
            try clear hfz41
            try clear hfz48
            try clear hfz50
            try clear hx623_0
            try clear hx623_1
            try clear p2
            try clear p623
            try clear q623
            obtain ⟨x9_4, x10_4, rfl, rfl, HA, HK4, HO_606000, HO_606001, HO_613000, HO_613001, BK605, BK612, HB⟩ := hrel
            cases gk with
            | zero => exact absurd HA.out (by simp [laws_FnGraphView.l1])
            | succ k4 =>
             have H := HA.out
             clear HA
             simp only [laws_FnGraphView.l1] at H
             by_cases c51 : x10_4 < (t598.length : Int)
             ·rw [if_pos c51] at H
              have c51b0 : decide (x10_4 < (t598.length : Int)) = true := decide_eq_true c51
              clear c51
              by_cases c52 : 0 ≤ x10_4
              ·rw [if_pos c52] at H
               have c52b0 : decide (0 ≤ x10_4) = true := decide_eq_true c52
               clear c52
               replace H := Option.bind_eq_some_iff.mp H
               obtain ⟨t626, A530, H⟩ := H
               try dsimp -simprocs only at H
               have A53 := Aside0.mk A530
               clear A530
               by_cases c54 : t626 = true
               ·subst c54
                have H1 : (laws_FnGraphView.l1 k4 l1 t604 (wrap64 (x9_4 + 1)) (wrap64 (x10_4 + 1)) t598 t601 t606 t609) = some r := by rw [if_pos rfl] at H; exact H
                clear H
                have H := H1
                clear H1
                have H' := Aside0.mk H
                clear H
                have hnb55 := NB605_612.out
                have hnc55 := NB612_605.out
                obtain ⟨hcz56_0, hcz56_1⟩ := bc2 (w := wr) BK605.out
                have hfz56 := blk_frozen BK605.out
                have p625 : 0 ≤ (x10_4 : Int) := oda
                have q625 : x10_4 < (t598.length : Int) := oda
                obtain ⟨ad625, e625, hx625_0, hx625_1⟩ := at_T36 (Kd.Q_reads' HO_606000.out).2.2 x10_4 p625 q625
                cases e625
                replace p625 := eq_true p625
                replace q625 := eq_true q625
                go_wp2_with (first | ((with_reducible refine gc 47 rfl ?_); refine gl 75 Try.func47 #[.int .i64 ((rd_T36 t598 x10_4).f0), .int .i64 t604] ?_; (with_reducible refine (impl_LabelUnder.calls ((rd_T36 t598 x10_4).f0) t604 true _ A53.out).mono ?_); rintro e w' ⟨rfl, ⟨nd, rfl⟩⟩; refine ⟨_, rfl, ?_⟩))
                go_roundg k4
                case measure => have := HJ2.out; have := HJ10.out; have := HK3.out; have := HK4.out; omega
                case rel => exact ⟨(wrap64 (x9_4 + 1)), (wrap64 (x10_4 + 1)), eqs, eqs, H', ⟨by have := HJ2.out; have := HJ10.out; have := HK3.out; have := HK4.out; omega⟩, ⟨by (with_reducible repeat (first | apply Kd.Q_alloc | apply Kd.Q_drewN | apply Kd.Q_drew)); exact HO_606000.out⟩, ⟨rl HO_606001.out⟩, ⟨rl HO_613000.out⟩, ⟨rl HO_613001.out⟩, ⟨bf BK605.out⟩, ⟨bf BK612.out⟩, ⟨bs HB.out⟩⟩
               ·replace c54 := Bool.eq_false_iff.mpr c54
                subst c54
                have H1 : (laws_FnGraphView.l1 k4 l1 t604 x9_4 (wrap64 (x10_4 + 1)) t598 t601 t606 t609) = some r := by rw [if_neg (show ¬ (false = true) by decide)] at H; exact H
                clear H
                have H := H1
                clear H1
                have H' := Aside0.mk H
                clear H
                have hnb57 := NB605_612.out
                have hnc57 := NB612_605.out
                obtain ⟨hcz58_0, hcz58_1⟩ := bc2 (w := wr) BK605.out
                have hfz58 := blk_frozen BK605.out
                have p625 : 0 ≤ (x10_4 : Int) := oda
                have q625 : x10_4 < (t598.length : Int) := oda
                obtain ⟨ad625, e625, hx625_0, hx625_1⟩ := at_T36 (Kd.Q_reads' HO_606000.out).2.2 x10_4 p625 q625
                cases e625
                replace p625 := eq_true p625
                replace q625 := eq_true q625
                go_wp2_with (first | ((with_reducible refine gc 47 rfl ?_); refine gl 75 Try.func47 #[.int .i64 ((rd_T36 t598 x10_4).f0), .int .i64 t604] ?_; (with_reducible refine (impl_LabelUnder.calls ((rd_T36 t598 x10_4).f0) t604 false _ A53.out).mono ?_); rintro e w' ⟨rfl, ⟨nd, rfl⟩⟩; refine ⟨_, rfl, ?_⟩))
                go_roundg k4
                case measure => have := HJ2.out; have := HJ10.out; have := HK3.out; have := HK4.out; omega
                case rel => exact ⟨(x9_4), (wrap64 (x10_4 + 1)), eqs, eqs, H', ⟨by have := HJ2.out; have := HJ10.out; have := HK3.out; have := HK4.out; omega⟩, ⟨by (with_reducible repeat (first | apply Kd.Q_alloc | apply Kd.Q_drewN | apply Kd.Q_drew)); exact HO_606000.out⟩, ⟨rl HO_606001.out⟩, ⟨rl HO_613000.out⟩, ⟨rl HO_613001.out⟩, ⟨bf BK605.out⟩, ⟨bf BK612.out⟩, ⟨bs HB.out⟩⟩
              ·rw [if_neg c52] at H
               exact absurd H (by simp)
             ·rw [if_neg c51] at H
              have c51b0 : decide (x10_4 < (t598.length : Int)) = false := decide_eq_false c51
              clear c51
              replace H := Option.bind_eq_some_iff.mp H
              obtain ⟨t627, A590, H⟩ := H
              try dsimp -simprocs only at H
              have A59 := Aside0.mk A590
              clear A590
              by_cases c60 : t627 = true
              ·subst c60
               have H1 : (if x9_4 = (t606.length : Int) then ((impl_GraphView.f k4 t606 t609 ((l1.length : Int) % 8)).bind fun bt628 => ((impl_LabelMeet.f t604 ((l1.length : Int) % 8)).bind fun t634 => ((impl_GraphView.f k4 t598 t601 t634).bind fun bt635 => ((impl_GraphSame.f k4 bt628.1 bt628.2 bt635.1 bt635.2).bind fun t641 => (if t641 = true then ((impl_GraphView.f k4 t598 t601 7).bind fun bt642 => ((impl_GraphSame.f k4 bt642.1 bt642.2 t598 t601).bind fun t648 => (some t648))) else (some false)))))) else (some false)) = some r := by rw [if_pos rfl] at H; exact H
               clear H
               have H := H1
               clear H1
               by_cases c61 : x9_4 = (t606.length : Int)
               ·rw [if_pos c61] at H
                have c61b0 : (x9_4 == (t606.length : Int)) = true := beq_iff_eq.mpr c61
                have c61b1 : (x9_4 != (t606.length : Int)) = false := bne_eq_false_iff_eq.mpr c61
                clear c61
                replace H := Option.bind_eq_some_iff.mp H
                obtain ⟨⟨t628, t631⟩, A620, H⟩ := H
                try dsimp -simprocs only at H
                have A62 := Aside0.mk A620
                clear A620
                replace H := Option.bind_eq_some_iff.mp H
                obtain ⟨t634, A630, H⟩ := H
                try dsimp -simprocs only at H
                have A63 := Aside0.mk A630
                clear A630
                replace H := Option.bind_eq_some_iff.mp H
                obtain ⟨⟨t635, t638⟩, A640, H⟩ := H
                try dsimp -simprocs only at H
                have A64 := Aside0.mk A640
                clear A640
                replace H := Option.bind_eq_some_iff.mp H
                obtain ⟨t641, A650, H⟩ := H
                try dsimp -simprocs only at H
                have A65 := Aside0.mk A650
                clear A650
                by_cases c66 : t641 = true
                ·subst c66
                 have H1 : ((impl_GraphView.f k4 t598 t601 7).bind fun bt642 => ((impl_GraphSame.f k4 bt642.1 bt642.2 t598 t601).bind fun t648 => (some t648))) = some r := by rw [if_pos rfl] at H; exact H
                 clear H
                 have H := H1
                 clear H1
                 replace H := Option.bind_eq_some_iff.mp H
                 obtain ⟨⟨t642, t645⟩, A670, H⟩ := H
                 try dsimp -simprocs only at H
                 have A67 := Aside0.mk A670
                 clear A670
                 replace H := Option.bind_eq_some_iff.mp H
                 obtain ⟨t648, A680, H⟩ := H
                 try dsimp -simprocs only at H
                 have A68 := Aside0.mk A680
                 clear A680
                 obtain rfl := Option.some.inj H
                 have hnb69 := NB605_612.out
                 have hnc69 := NB612_605.out
                 obtain ⟨hcz70_0, hcz70_1⟩ := bc2 (w := wr) BK605.out
                 have hfz70 := blk_frozen BK605.out
                 try go_wp2
                 replace HO_606000 := Aside0.mk (Kd.Q_drew HO_606000.out)
                 replace HO_606001 := rd_ HO_606001
                 replace HO_613000 := rd_ HO_613000
                 replace HO_613001 := rd_ HO_613001
                 replace BK605 := bd BK605
                 replace BK612 := bd BK612
                 replace HB := hd HB
                 refine start_ (n := 27) (S := fun w' => w'.cell? ⟨gb612, 0, none⟩ = some (.slice Ao19 t606.length co19) ∧ w'.cell? ⟨gb612, 1, none⟩ = some (.slice Ao22 t609.length co22) ∧ w'.cell? ⟨gb605, 0, none⟩ = some (.slice Ao14 t598.length co14) ∧ w'.cell? ⟨gb605, 1, none⟩ = some (.slice Ao16 t601.length co16)) (ds := []) #[false, false, false, false, false, false, false, false, false, false, false, false, false, false, false, false, false, false, false, false, false, false, false, false, false, false, false] (by kernel_rfl) rfl rfl ⟨(blk_cell BK612.out 0).trans rfl, (blk_cell BK612.out 1).trans rfl, (blk_cell BK605.out 0).trans rfl, (blk_cell BK605.out 1).trans rfl⟩ (fun hHeld => ?_); refine with_tabW laws_FnGraphView.tab21 laws_FnGraphView.bits21 (fun HT_ HW_ => ?_)
                 generalize wr.drew = w71 at HO_606000 HO_606001 HO_613000 HO_613001 BK605 BK612 HB hHeld ⊢
                 refine tk 0 81 ?_
                 refine one_ (i := 1) (N := some 82) #[true, true, false, false, false, false, false, false, false, false, false, false, false, false, false, false, false, false, false, false, false, false, false, false, false, false, false] rfl rfl (one_of HT_.out (by kernel_rfl)) (by decide) (fun K hK => ?_)
                 refine gs Try.func34 #[.agg #[.slice Ao19 t606.length co19, .slice Ao22 t609.length co22]] ?_
                 with_reducible refine (impl_GraphOk.calls k4 _ _ t606 _ _ t609 true _ ?side1 ?side2 ?side3 ?side4 A59.out).mono ?_
                 (case side1 => exact cr HO_613000)
                 (case side2 => exact (Kd.R_reads' HO_613000.out).2.1)
                 (case side3 => exact cr HO_613001)
                 (case side4 => exact (Kd.R_reads' HO_613001.out).2.1)
                 rintro e w72 ⟨rfl, hb⟩
                 refine ⟨_, rfl, ?_⟩
                 replace HO_606000 := Aside0.mk (Kd.Q_below (by (with_reducible repeat (first | apply Kd.Q_alloc | apply Kd.Q_drewN | apply Kd.Q_drew)); exact HO_606000.out) hb)
                 replace HO_606001 := rb HO_606001 hb
                 replace HO_613000 := rb HO_613000 hb
                 replace HO_613001 := rb HO_613001 hb
                 replace BK605 := bb BK605 hb rfl
                 replace BK612 := bb BK612 hb rfl
                 replace HB := hs HB hb
                 (try clear hb)
                 (try clear hb2)
                 (try clear hk)
                 (try clear hi)
                 refine hK.out _ _ ⟨(blk_cell BK612.out 0).trans rfl, (blk_cell BK612.out 1).trans rfl, (blk_cell BK605.out 0).trans rfl, (blk_cell BK605.out 1).trans rfl⟩ (fun hHeld => ?_)
                 clear hK K
                 refine nrm 82 ?_
                 refine pu 2 83 ?_
                 refine pu 3 84 ?_
                 refine pu 4 85 ?_
                 refine tk 5 86 ?_
                 refine pu 6 87 ?_
                 refine pu 7 88 ?_
                 refine pu 8 89 ?_
                 refine pu 9 90 ?_
                 refine pu 11 92 ?_
                 refine pu 14 95 ?_
                 refine pu 15 96 ?_
                 refine tk 10 91 ?_
                 refine tk 13 94 ?_
                 refine one_ (i := 12) (N := some 93) #[true, true, true, true, true, true, true, true, true, true, true, true, true, true, true, true, false, false, false, false, false, false, false, false, false, false, false] rfl rfl (one_of HT_.out (by kernel_rfl)) (by decide) (fun K hK => ?_)
                 refine gs Try.func36 #[.agg #[.slice Ao19 t606.length co19, .slice Ao22 t609.length co22], .int .i64 ((l1.length : Int) % 8)] ?_
                 with_reducible refine (impl_GraphView.calls k4 _ _ t606 _ _ t609 ((l1.length : Int) % 8) t628 t631 _ ?side1 ?side2 ?side3 ?side4 A62.out).mono ?_
                 (case side1 => exact cr HO_613000)
                 (case side2 => exact (Kd.R_reads' HO_613000.out).2.1)
                 (case side3 => exact cr HO_613001)
                 (case side4 => exact (Kd.R_reads' HO_613001.out).2.1)
                 rintro e w73 ⟨v629, v632, rfl, ho0, ho1, hb⟩
                 refine ⟨_, rfl, ?_⟩
                 have HO630 := Aside0.mk (Kd.R_lower (Kd.R_new' (Kd.R_new' ho0 (Kd.Q_lt (by (with_reducible repeat (first | apply Kd.Q_alloc | apply Kd.Q_drewN | apply Kd.Q_drew)); exact HO_606000.out))) (Kd.R_lt (rl HO_613000.out))) (below_size (bs HB.out)))
                 replace HO_606000 := Aside0.mk (Kd.Q_elder' (by (with_reducible repeat (first | apply Kd.Q_alloc | apply Kd.Q_drewN | apply Kd.Q_drew)); exact HO_606000.out) (Kd.R_base ho0) hb)
                 replace HO_613000 := Aside0.mk (Kd.R_elder' (rl HO_613000.out) (Kd.R_base ho0) hb)
                 have HO633 := Aside0.mk (Kd.R_lower (Kd.R_new' (Kd.R_new' ho1 (Kd.R_lt (rl HO_606001.out))) (Kd.R_lt (rl HO_613001.out))) (below_size (bs HB.out)))
                 replace HO_606001 := Aside0.mk (Kd.R_elder' (rl HO_606001.out) (Kd.R_base ho1) hb)
                 replace HO_613001 := Aside0.mk (Kd.R_elder' (rl HO_613001.out) (Kd.R_base ho1) hb)
                 replace BK605 := bb BK605 hb rfl
                 replace BK612 := bb BK612 hb rfl
                 replace HB := hs HB hb
                 (try clear hb)
                 (try clear hb2)
                 (try clear hk)
                 (try clear hi)
                 (try clear ho0)
                 (try clear ho1)
                 refine hK.out _ _ ⟨(blk_cell BK612.out 0).trans rfl, (blk_cell BK612.out 1).trans rfl, (blk_cell BK605.out 0).trans rfl, (blk_cell BK605.out 1).trans rfl⟩ (fun hHeld => ?_)
                 clear hK K
                 refine nrm 93 ?_
                 refine one_ (i := 16) (N := some 97) #[true, true, true, true, true, true, true, true, true, true, true, true, true, true, true, true, true, false, false, false, false, false, false, false, false, false, false] rfl rfl (one_of HT_.out (by kernel_rfl)) (by decide) (fun K hK => ?_)
                 refine gs Try.func48 #[.int .i64 t604, .int .i64 ((l1.length : Int) % 8)] ?_
                 with_reducible refine (impl_LabelMeet.calls t604 ((l1.length : Int) % 8) t634 _ A63.out).mono ?_
                 rintro e w' ⟨rfl, ⟨nd, rfl⟩⟩
                 refine ⟨_, rfl, ?_⟩
                 refine hK.out _ _ ⟨(blk_cell BK612.out 0).trans rfl, (blk_cell BK612.out 1).trans rfl, (blk_cell BK605.out 0).trans rfl, (blk_cell BK605.out 1).trans rfl⟩ (fun hHeld => ?_)
                 clear hK K
                 refine nrm 97 ?_
                 refine one_ (i := 17) (N := some 98) #[true, true, true, true, true, true, true, true, true, true, true, true, true, true, true, true, true, true, false, false, false, false, false, false, false, false, false] rfl rfl (one_of HT_.out (by kernel_rfl)) (by decide) (fun K hK => ?_)
                 refine gs Try.func36 #[.agg #[.slice Ao14 t598.length co14, .slice Ao16 t601.length co16], .int .i64 t634] ?_
                 with_reducible refine (impl_GraphView.calls k4 _ _ t598 _ _ t601 t634 t635 t638 _ ?side1 ?side2 ?side3 ?side4 A64.out).mono ?_
                 (case side1 => repeat (first | exact (Kd.Q_reads' HO_606000.out).2.2 | (with_reducible refine Kd.C_alloc ?_ _) | (with_reducible refine Kd.C_drewN ?_ _) | (with_reducible refine Kd.C_drew ?_)))
                 (case side2 => exact (Kd.Q_reads' HO_606000.out).2.1)
                 (case side3 => exact cr HO_606001)
                 (case side4 => exact (Kd.R_reads' HO_606001.out).2.1)
                 rintro e w74 ⟨v636, v639, rfl, ho0, ho1, hb⟩
                 refine ⟨_, rfl, ?_⟩
                 have HO637 := Aside0.mk (Kd.R_lower (Kd.R_new' (Kd.R_new' (Kd.R_new' ho0 (Kd.Q_lt (by (with_reducible repeat (first | apply Kd.Q_alloc | apply Kd.Q_drewN | apply Kd.Q_drew)); exact HO_606000.out))) (Kd.R_lt (rl HO_613000.out))) (Kd.R_lt (rl HO630.out))) (below_size (bs HB.out)))
                 replace HO_606000 := Aside0.mk (Kd.Q_elder' (by (with_reducible repeat (first | apply Kd.Q_alloc | apply Kd.Q_drewN | apply Kd.Q_drew)); exact HO_606000.out) (Kd.R_base ho0) hb)
                 replace HO_613000 := Aside0.mk (Kd.R_elder' (rl HO_613000.out) (Kd.R_base ho0) hb)
                 replace HO630 := Aside0.mk (Kd.R_elder' (rl HO630.out) (Kd.R_base ho0) hb)
                 have HO640 := Aside0.mk (Kd.R_lower (Kd.R_new' (Kd.R_new' (Kd.R_new' ho1 (Kd.R_lt (rl HO_606001.out))) (Kd.R_lt (rl HO_613001.out))) (Kd.R_lt (rl HO633.out))) (below_size (bs HB.out)))
                 replace HO_606001 := Aside0.mk (Kd.R_elder' (rl HO_606001.out) (Kd.R_base ho1) hb)
                 replace HO_613001 := Aside0.mk (Kd.R_elder' (rl HO_613001.out) (Kd.R_base ho1) hb)
                 replace HO633 := Aside0.mk (Kd.R_elder' (rl HO633.out) (Kd.R_base ho1) hb)
                 replace BK605 := bb BK605 hb rfl
                 replace BK612 := bb BK612 hb rfl
                 replace HB := hs HB hb
                 (try clear hb)
                 (try clear hb2)
                 (try clear hk)
                 (try clear hi)
                 (try clear ho0)
                 (try clear ho1)
                 obtain ⟨Ao75, co75, eo75⟩ := Kd.R_slice HO630.out
                 (first | subst eo75 | (injection eo75 with f1_ f2_ f3_; have f4_ := f1_.symm; have f5_ := f3_.symm; clear f1_ f2_ f3_; subst f4_; subst f5_))
                 obtain ⟨Ao76, co76, eo76⟩ := Kd.R_slice HO633.out
                 (first | subst eo76 | (injection eo76 with f1_ f2_ f3_; have f4_ := f1_.symm; have f5_ := f3_.symm; clear f1_ f2_ f3_; subst f4_; subst f5_))
                 obtain ⟨Ao77, co77, eo77⟩ := Kd.R_slice HO637.out
                 (first | subst eo77 | (injection eo77 with f1_ f2_ f3_; have f4_ := f1_.symm; have f5_ := f3_.symm; clear f1_ f2_ f3_; subst f4_; subst f5_))
                 obtain ⟨Ao78, co78, eo78⟩ := Kd.R_slice HO640.out
                 (first | subst eo78 | (injection eo78 with f1_ f2_ f3_; have f4_ := f1_.symm; have f5_ := f3_.symm; clear f1_ f2_ f3_; subst f4_; subst f5_))
                 refine hK.out _ _ ⟨(blk_cell BK612.out 0).trans rfl, (blk_cell BK612.out 1).trans rfl, (blk_cell BK605.out 0).trans rfl, (blk_cell BK605.out 1).trans rfl⟩ (fun hHeld => ?_)
                 clear hK K
                 refine nrm 98 ?_
                 refine one_ (i := 18) (N := some 99) #[true, true, true, true, true, true, true, true, true, true, true, true, true, true, true, true, true, true, true, false, false, false, false, false, false, false, false] rfl rfl (one_of HT_.out (by kernel_rfl)) (by decide) (fun K hK => ?_)
                 refine gs Try.func41 #[.agg #[.slice Ao75 t628.length co75, .slice Ao76 t631.length co76], .agg #[.slice Ao77 t635.length co77, .slice Ao78 t638.length co78]] ?_
                 with_reducible refine (impl_GraphSame.calls k4 _ _ t628 _ _ t631 _ _ t635 _ _ t638 true _ ?side1 ?side2 ?side3 ?side4 ?side5 ?side6 ?side7 ?side8 A65.out).mono ?_
                 (case side1 => exact cr HO630)
                 (case side2 => exact (Kd.R_reads' HO630.out).2.1)
                 (case side3 => exact cr HO633)
                 (case side4 => exact (Kd.R_reads' HO633.out).2.1)
                 (case side5 => exact cr HO637)
                 (case side6 => exact (Kd.R_reads' HO637.out).2.1)
                 (case side7 => exact cr HO640)
                 (case side8 => exact (Kd.R_reads' HO640.out).2.1)
                 rintro e w79 ⟨rfl, hb⟩
                 refine ⟨_, rfl, ?_⟩
                 replace HO_606000 := Aside0.mk (Kd.Q_below (by (with_reducible repeat (first | apply Kd.Q_alloc | apply Kd.Q_drewN | apply Kd.Q_drew)); exact HO_606000.out) hb)
                 replace HO_606001 := rb HO_606001 hb
                 replace HO_613000 := rb HO_613000 hb
                 replace HO_613001 := rb HO_613001 hb
                 replace HO630 := rb HO630 hb
                 replace HO633 := rb HO633 hb
                 replace HO637 := rb HO637 hb
                 replace HO640 := rb HO640 hb
                 replace BK605 := bb BK605 hb rfl
                 replace BK612 := bb BK612 hb rfl
                 replace HB := hs HB hb
                 (try clear hb)
                 (try clear hb2)
                 (try clear hk)
                 (try clear hi)
                 refine hK.out _ _ ⟨(blk_cell BK612.out 0).trans rfl, (blk_cell BK612.out 1).trans rfl, (blk_cell BK605.out 0).trans rfl, (blk_cell BK605.out 1).trans rfl⟩ (fun hHeld => ?_)
                 clear hK K
                 refine nrm 99 ?_
                 refine pu 19 100 ?_
                 refine pu 20 101 ?_
                 refine tk 21 102 ?_
                 refine tk 23 104 ?_
                 refine one_ (i := 22) (N := some 103) #[true, true, true, true, true, true, true, true, true, true, true, true, true, true, true, true, true, true, true, true, true, true, true, true, false, false, false] rfl rfl (one_of HT_.out (by kernel_rfl)) (by decide) (fun K hK => ?_)
                 refine gs Try.func36 #[.agg #[.slice Ao14 t598.length co14, .slice Ao16 t601.length co16], .int .i64 7] ?_
                 with_reducible refine (impl_GraphView.calls k4 _ _ t598 _ _ t601 7 t642 t645 _ ?side1 ?side2 ?side3 ?side4 A67.out).mono ?_
                 (case side1 => repeat (first | exact (Kd.Q_reads' HO_606000.out).2.2 | (with_reducible refine Kd.C_alloc ?_ _) | (with_reducible refine Kd.C_drewN ?_ _) | (with_reducible refine Kd.C_drew ?_)))
                 (case side2 => exact (Kd.Q_reads' HO_606000.out).2.1)
                 (case side3 => exact cr HO_606001)
                 (case side4 => exact (Kd.R_reads' HO_606001.out).2.1)
                 rintro e w80 ⟨v643, v646, rfl, ho0, ho1, hb⟩
                 refine ⟨_, rfl, ?_⟩
                 have HO644 := Aside0.mk (Kd.R_lower (Kd.R_new' (Kd.R_new' (Kd.R_new' (Kd.R_new' ho0 (Kd.Q_lt (by (with_reducible repeat (first | apply Kd.Q_alloc | apply Kd.Q_drewN | apply Kd.Q_drew)); exact HO_606000.out))) (Kd.R_lt (rl HO_613000.out))) (Kd.R_lt (rl HO630.out))) (Kd.R_lt (rl HO637.out))) (below_size (bs HB.out)))
                 replace HO_606000 := Aside0.mk (Kd.Q_elder' (by (with_reducible repeat (first | apply Kd.Q_alloc | apply Kd.Q_drewN | apply Kd.Q_drew)); exact HO_606000.out) (Kd.R_base ho0) hb)
                 replace HO_613000 := Aside0.mk (Kd.R_elder' (rl HO_613000.out) (Kd.R_base ho0) hb)
                 replace HO630 := Aside0.mk (Kd.R_elder' (rl HO630.out) (Kd.R_base ho0) hb)
                 replace HO637 := Aside0.mk (Kd.R_elder' (rl HO637.out) (Kd.R_base ho0) hb)
                 have HO647 := Aside0.mk (Kd.R_lower (Kd.R_new' (Kd.R_new' (Kd.R_new' (Kd.R_new' ho1 (Kd.R_lt (rl HO_606001.out))) (Kd.R_lt (rl HO_613001.out))) (Kd.R_lt (rl HO633.out))) (Kd.R_lt (rl HO640.out))) (below_size (bs HB.out)))
                 replace HO_606001 := Aside0.mk (Kd.R_elder' (rl HO_606001.out) (Kd.R_base ho1) hb)
                 replace HO_613001 := Aside0.mk (Kd.R_elder' (rl HO_613001.out) (Kd.R_base ho1) hb)
                 replace HO633 := Aside0.mk (Kd.R_elder' (rl HO633.out) (Kd.R_base ho1) hb)
                 replace HO640 := Aside0.mk (Kd.R_elder' (rl HO640.out) (Kd.R_base ho1) hb)
                 replace BK605 := bb BK605 hb rfl
                 replace BK612 := bb BK612 hb rfl
                 replace HB := hs HB hb
                 (try clear hb)
                 (try clear hb2)
                 (try clear hk)
                 (try clear hi)
                 (try clear ho0)
                 (try clear ho1)
                 obtain ⟨Ao81, co81, eo81⟩ := Kd.R_slice HO644.out
                 (first | subst eo81 | (injection eo81 with f1_ f2_ f3_; have f4_ := f1_.symm; have f5_ := f3_.symm; clear f1_ f2_ f3_; subst f4_; subst f5_))
                 obtain ⟨Ao82, co82, eo82⟩ := Kd.R_slice HO647.out
                 (first | subst eo82 | (injection eo82 with f1_ f2_ f3_; have f4_ := f1_.symm; have f5_ := f3_.symm; clear f1_ f2_ f3_; subst f4_; subst f5_))
                 refine hK.out _ _ ⟨(blk_cell BK612.out 0).trans rfl, (blk_cell BK612.out 1).trans rfl, (blk_cell BK605.out 0).trans rfl, (blk_cell BK605.out 1).trans rfl⟩ (fun hHeld => ?_)
                 clear hK K
                 refine nrm 103 ?_
                 refine one_ (i := 24) (N := some 105) #[true, true, true, true, true, true, true, true, true, true, true, true, true, true, true, true, true, true, true, true, true, true, true, true, true, false, false] rfl rfl (one_of HT_.out (by kernel_rfl)) (by decide) (fun K hK => ?_)
                 refine gs Try.func41 #[.agg #[.slice Ao81 t642.length co81, .slice Ao82 t645.length co82], .agg #[.slice Ao14 t598.length co14, .slice Ao16 t601.length co16]] ?_
                 with_reducible refine (impl_GraphSame.calls k4 _ _ t642 _ _ t645 _ _ t598 _ _ t601 t648 _ ?side1 ?side2 ?side3 ?side4 ?side5 ?side6 ?side7 ?side8 A68.out).mono ?_
                 (case side1 => exact cr HO644)
                 (case side2 => exact (Kd.R_reads' HO644.out).2.1)
                 (case side3 => exact cr HO647)
                 (case side4 => exact (Kd.R_reads' HO647.out).2.1)
                 (case side5 => repeat (first | exact (Kd.Q_reads' HO_606000.out).2.2 | (with_reducible refine Kd.C_alloc ?_ _) | (with_reducible refine Kd.C_drewN ?_ _) | (with_reducible refine Kd.C_drew ?_)))
                 (case side6 => exact (Kd.Q_reads' HO_606000.out).2.1)
                 (case side7 => exact cr HO_606001)
                 (case side8 => exact (Kd.R_reads' HO_606001.out).2.1)
                 rintro e w83 ⟨rfl, hb⟩
                 refine ⟨_, rfl, ?_⟩
                 replace HO_606000 := Aside0.mk (Kd.Q_below (by (with_reducible repeat (first | apply Kd.Q_alloc | apply Kd.Q_drewN | apply Kd.Q_drew)); exact HO_606000.out) hb)
                 replace HO_606001 := rb HO_606001 hb
                 replace HO_613000 := rb HO_613000 hb
                 replace HO_613001 := rb HO_613001 hb
                 replace HO630 := rb HO630 hb
                 replace HO633 := rb HO633 hb
                 replace HO637 := rb HO637 hb
                 replace HO640 := rb HO640 hb
                 replace HO644 := rb HO644 hb
                 replace HO647 := rb HO647 hb
                 replace BK605 := bb BK605 hb rfl
                 replace BK612 := bb BK612 hb rfl
                 replace HB := hs HB hb
                 (try clear hb)
                 (try clear hb2)
                 (try clear hk)
                 (try clear hi)
                 refine hK.out _ _ ⟨(blk_cell BK612.out 0).trans rfl, (blk_cell BK612.out 1).trans rfl, (blk_cell BK605.out 0).trans rfl, (blk_cell BK605.out 1).trans rfl⟩ (fun hHeld => ?_)
                 clear hK K
                 refine nrm 105 ?_
                 refine pu 25 106 ?_
                 refine pu 26 4 ?_
                 refine done_ (done_of HT_.out (by kernel_rfl)) ?_
                 try go_wp2
                 go_ret
                 exact ⟨eqr, bs HB.out⟩
                ·replace c66 := Bool.eq_false_iff.mpr c66
                 subst c66
                 have H1 : (some false) = some r := by rw [if_neg (show ¬ (false = true) by decide)] at H; exact H
                 clear H
                 have H := H1
                 clear H1
                 exact absurd (Option.some.inj H) (by rw [hT.out]; decide)
               ·rw [if_neg c61] at H
                have c61b0 : (x9_4 == (t606.length : Int)) = false := beq_eq_false_iff_ne.mpr c61
                have c61b1 : (x9_4 != (t606.length : Int)) = true := bne_iff_ne.mpr c61
                exact absurd (Option.some.inj H) (by rw [hT.out]; decide)
              ·replace c60 := Bool.eq_false_iff.mpr c60
               subst c60
               have H1 : (some false) = some r := by rw [if_neg (show ¬ (false = true) by decide)] at H; exact H
               clear H
               have H := H1
               clear H1
               exact absurd (Option.some.inj H) (by rw [hT.out]; decide)
    ·replace c10 := Bool.eq_false_iff.mpr c10
     subst c10
     have H1 : (some false) = some r := by rw [if_neg (show ¬ (false = true) by decide)] at H; exact H
     clear H
     have H := H1
     clear H1
     exact absurd (Option.some.inj H) (by rw [hT.out]; decide)

end Go.Proofs.Ytohmemckdogljaa.QFnGraphView
