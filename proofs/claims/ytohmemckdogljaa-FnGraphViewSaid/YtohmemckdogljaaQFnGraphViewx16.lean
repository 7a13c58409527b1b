/- Contracts of the Go functions that this law reaches: each does what its plain Lean function says. No condition. -/
import Derived.Test.YtohmemckdogljaaQFnGraphViewx0
import Derived.Test.YtohmemckdogljaaQFnGraphViewx8
import Derived.Test.YtohmemckdogljaaQFnGraphViewx10
import Derived.Test.YtohmemckdogljaaQFnGraphViewx11
import Derived.Test.YtohmemckdogljaaQFnGraphViewx12
import Derived.Test.YtohmemckdogljaaQFnGraphViewx13
import Derived.Test.YtohmemckdogljaaQFnGraphViewx14
import Derived.Test.YtohmemckdogljaaQFnGraphViewx15
namespace Go.Proofs.Ytohmemckdogljaa.QFnGraphView
open Go.RowKit Go.Proofs.YtohmemckdogljaaW.PrintWords Go.Proofs.YtohmemckdogljaaW.PrintLast Go.Proofs.YtohmemckdogljaaW.PrintMore Go.Proofs.Ytohmemckdogljaa.Bl
attribute [local go_sem] max2_int min2_int max_two min_two max_three min_three max_four min_four   -- for this text's walks alone
set_option linter.unusedVariables false
set_option linter.unusedSimpArgs false
set_option maxHeartbeats 8000000
set_option maxRecDepth 100000

/-! ### spec_l2Do: function 96 -/
def spec_l2Do.f (k : Nat) (l0_0 : List (S36)) (l0_1 : List (S56)) (a1_0 : Int) (a1_1 : Int) (a1_2 : Int) (a1_3 : Int) (a1_4 : Int) (a1_5 : Int) (a1_6 : Int) (a1_7 : Int) : Option ((List (S36)) × (List (S56)) × Int) := (spec_OpLabel.f k a1_0 a1_1 a1_2 a1_3 a1_4 a1_5 a1_6 a1_7).bind fun t455 => (if t455 < 0 then (some (l0_0, l0_1, 1)) else ((spec_l2Ends.f k l0_0 l0_1 a1_0 a1_1 a1_2 a1_3 a1_4 a1_5 a1_6 a1_7).bind fun t456 => (if t456 = 0 then (if a1_0 = 1 then ((spec_l2Copy.f l0_0 l0_1).bind fun bt457 => ((spec_l2PutNode.f k bt457.1 bt457.2 a1_1 a1_2).bind fun bt463 => (some (bt463.1, bt463.2, t456)))) else (if a1_0 = 2 then ((spec_l2Copy.f l0_0 l0_1).bind fun bt469 => ((spec_l2PutEdge.f k bt469.1 bt469.2 a1_3 a1_4 a1_5 a1_6 a1_7).bind fun bt475 => (some (bt475.1, bt475.2, t456)))) else (if a1_0 = 3 then ((spec_l2Cut.f k l0_0 l0_1 a1_3 a1_4 a1_5 a1_6 a1_7).bind fun bt481 => (some (bt481.1, bt481.2, t456))) else ((spec_l2Off.f k l0_0 l0_1 a1_1 a1_2).bind fun bt487 => (some (bt487.1, bt487.2, t456)))))) else (some (l0_0, l0_1, t456)))))
def spec_l2Do.T8 : Bool × List (List Nat × List Nat) := (true, [([], []), ([0], [0]), ([], []), ([2], [2]), ([1, 3, 1], [1, 3]), ([], []), ([4, 4, 0, 1, 2, 3, 4], [4]), ([5, 6, 0, 1, 2, 3, 4, 5, 6], [5])])
def spec_l2Do.B8 : List Nat := [0, 1, 0, 4, 15, 0, 31, 127]
theorem spec_l2Do.tab8 : rtab .any (opsOf Try.f96 8) = spec_l2Do.T8 := by kernel_rfl
theorem spec_l2Do.bits8 : waitsOk spec_l2Do.T8.2 spec_l2Do.B8 = true := by kernel_rfl
def spec_l2Do.T10 : Bool × List (List Nat × List Nat) := (true, [([], []), ([0], [0]), ([], []), ([2], [2]), ([1, 3, 1], [1, 3]), ([], []), ([4, 4, 0, 1, 2, 3, 4], [4]), ([5, 6, 0, 1, 2, 3, 4, 5, 6], [5])])
def spec_l2Do.B10 : List Nat := [0, 1, 0, 4, 15, 0, 31, 127]
theorem spec_l2Do.tab10 : rtab .any (opsOf Try.f96 10) = spec_l2Do.T10 := by kernel_rfl
theorem spec_l2Do.bits10 : waitsOk spec_l2Do.T10.2 spec_l2Do.B10 = true := by kernel_rfl
theorem spec_l2Do.calls (k : Nat) (P0_0_ : Nat → Prop) (u9000_ : Value) (l0_0 : List (S36)) (P0_1_ : Nat → Prop) (u9001_ : Value) (l0_1 : List (S56)) (a1_0 : Int) (a1_1 : Int) (a1_2 : Int) (a1_3 : Int) (a1_4 : Int) (a1_5 : Int) (a1_6 : Int) (a1_7 : Int) (r1 : List (S36)) (r2 : List (S56)) (r3 : Int) (w0 w : World) (hB : Below w0.heap.size w0 w) (ho0_0 : Kd.R k36 36 w w0.heap.size P0_0_ u9000_ l0_0) (ho0_1 : Kd.R k56 56 w w0.heap.size P0_1_ u9001_ l0_1) (h : spec_l2Do.f k l0_0 l0_1 a1_0 a1_1 a1_2 a1_3 a1_4 a1_5 a1_6 a1_7 = some (r1, r2, r3)) :
  Calls Try.prog 96 #[.agg #[u9000_, u9001_], .agg #[.int .i64 a1_0, .int .i64 a1_1, .int .i64 a1_2, .int .i64 a1_3, .int .i64 a1_4, .int .i64 a1_5, .int .i64 a1_6, .int .i64 a1_7]] w fun e w' => ∃ v0_ v1_ : Value, e = .returned (.tuple #[.agg #[v0_, v1_], .int .i64 r3]) ∧ Kd.R k36 36 w' w0.heap.size (fun k_ => ((P0_0_ k_ ∨ P0_1_ k_) ∨ w.heap.size ≤ k_)) v0_ r1 ∧ Kd.R k56 56 w' w0.heap.size (fun k_ => ((P0_0_ k_ ∨ P0_1_ k_) ∨ w.heap.size ≤ k_)) v1_ r2 ∧ Below w0.heap.size w0 w' ∧ Kept w w' (fun k_ => P0_0_ k_ ∨ P0_1_ k_) := by
 have hu34 := Try.underlying34
 have hu58 := Try.underlying58
 have hu36 := Try.underlying36
 have hu56 := Try.underlying56
 have HO0_0 := Aside0.mk (show Kd.R k36 36 w w0.heap.size (fun k_ => ((P0_0_ k_ ∨ P0_1_ k_) ∨ w.heap.size ≤ k_)) u9000_ l0_0 from Kd.R_mono ho0_0 (fun k_ hk => (.inl (.inl hk))))
 have HO0_1 := Aside0.mk (show Kd.R k56 56 w w0.heap.size (fun k_ => ((P0_0_ k_ ∨ P0_1_ k_) ∨ w.heap.size ≤ k_)) u9001_ l0_1 from Kd.R_mono ho0_1 (fun k_ hk => (.inl (.inr hk))))
 have HK := Aside0.mk (Kept.refl w (fun k_ => P0_0_ k_ ∨ P0_1_ k_))
 have HW0 := Aside0.mk hB.size
 have HB := Aside0.mk hB
 clear hB
 have H := h; unfold spec_l2Do.f at H
 clear h
 replace H := Option.bind_eq_some_iff.mp H
 obtain ⟨t455, A30, H⟩ := H
 try dsimp -simprocs only at H
 have A3 := Aside0.mk A30
 clear A30
 by_cases c4 : t455 < 0
 ·rw [if_pos c4] at H
  have c4b0 : decide (t455 < 0) = true := decide_eq_true c4
  clear c4
  simp only [Option.some.injEq, Prod.mk.injEq] at H
  obtain ⟨rfl, rfl, rfl⟩ := H
  obtain ⟨Ao5, co5, eo5⟩ := Kd.R_slice HO0_0.out
  subst eo5
  obtain ⟨Ao6, co6, eo6⟩ := Kd.R_slice HO0_1.out
  subst eo6
  go_enter Try.func96, Try.ntmps96
  go_wp2_with (first | ((with_reducible refine gd 2 rfl ?_); refine bx 2 (cs := #[.slice Ao5 l0_0.length co5, .slice Ao6 l0_1.length co6]) (t := 34) ?_; intro gb452 hg w7 hbox hb; replace HO0_0 := rb HO0_0 hb; replace HO0_1 := rb HO0_1 hb; have BK452 := Aside0.mk (hbox); have GW452 := Ge.mk ((by rw [hg]; exact (by first | exact HK.out.1 | exact (show Kept w _ (fun k_ => P0_0_ k_ ∨ P0_1_ k_) from ts HK.out).1) : w.heap.size ≤ gb452)); replace HK := kl HK hb; have GE452 := gwb HB hg; replace HB := hs HB hb; clear hb hbox hg) | ((with_reducible refine gd 3 rfl ?_); refine bx 3 (cs := #[.int .i64 a1_0, .int .i64 a1_1, .int .i64 a1_2, .int .i64 a1_3, .int .i64 a1_4, .int .i64 a1_5, .int .i64 a1_6, .int .i64 a1_7]) (t := 58) ?_; intro gb453 hg w8 hbox hb; replace HO0_0 := rb HO0_0 hb; replace HO0_1 := rb HO0_1 hb; have BK453 := Aside0.mk (hbox); have GW453 := Ge.mk ((by rw [hg]; exact (by first | exact HK.out.1 | exact (show Kept w _ (fun k_ => P0_0_ k_ ∨ P0_1_ k_) from ts HK.out).1) : w.heap.size ≤ gb453)); replace HK := kl HK hb; have GE453 := gwb HB hg; replace HB := hs HB hb; have NB452_453 := nq BK452 hg; have NB453_452 := nq' BK452 hg; replace BK452 := bb BK452 hb rfl; clear hb hbox hg) | ((with_reducible refine gd 4 rfl ?_); refine bx 4 (cs := #[.slice none 0 0, .slice none 0 0]) (t := 34) ?_; intro gb454 hg w9 hbox hb; replace HO0_0 := rb HO0_0 hb; replace HO0_1 := rb HO0_1 hb; have BK454 := Aside0.mk (hbox); have GW454 := Ge.mk ((by rw [hg]; exact (by first | exact HK.out.1 | exact (show Kept w _ (fun k_ => P0_0_ k_ ∨ P0_1_ k_) from ts HK.out).1) : w.heap.size ≤ gb454)); replace HK := kl HK hb; have GE454 := gwb HB hg; replace HB := hs HB hb; have NB452_454 := nq BK452 hg; have NB454_452 := nq' BK452 hg; replace BK452 := bb BK452 hb rfl; have NB453_454 := nq BK453 hg; have NB454_453 := nq' BK453 hg; replace BK453 := bb BK453 hb rfl; clear hb hbox hg; have hnb10 := NB453_452.out; have hnc10 := NB452_453.out; have hnb11 := NB453_454.out; have hnc11 := NB454_453.out; obtain ⟨hcz12_0, hcz12_1, hcz12_2, hcz12_3, hcz12_4, hcz12_5, hcz12_6, hcz12_7⟩ := bc8 (w := w9) BK453.out; have hfz12 := blk_frozen BK453.out) | ((with_reducible refine gc 44 rfl ?_); refine gl 8 Try.func44 #[.agg #[.int .i64 a1_0, .int .i64 a1_1, .int .i64 a1_2, .int .i64 a1_3, .int .i64 a1_4, .int .i64 a1_5, .int .i64 a1_6, .int .i64 a1_7]] ?_; (with_reducible refine (spec_OpLabel.calls k a1_0 a1_1 a1_2 a1_3 a1_4 a1_5 a1_6 a1_7 t455 _ A3.out).mono ?_); rintro e w13 ⟨rfl, hb⟩; refine ⟨_, rfl, ?_⟩; replace HO0_0 := rb HO0_0 hb; replace HO0_1 := rb HO0_1 hb; replace BK452 := bb BK452 hb rfl; replace BK453 := bb BK453 hb rfl; replace BK454 := bb BK454 hb rfl; replace HK := kl HK hb; replace HB := hs HB hb; (try clear hb); have hnb14 := NB452_454.out; have hnc14 := NB454_452.out; obtain ⟨hcz15_0, hcz15_1⟩ := bc2 (w := w13) BK452.out; have hfz15 := blk_frozen BK452.out; obtain ⟨hcz16_0, hcz16_1⟩ := bc2 (w := w13) BK454.out; have hfz16 := blk_frozen BK454.out))
  refine bodyPost_ret (results_ct rfl _ _ gb454 34 #[.slice Ao5 l0_0.length co5, .slice Ao6 l0_1.length co6] (0, 0) _ rfl (bp BK454.out rfl) Try.underlying34 rfl (by kernel_rfl)) rfl ?_
  exact ⟨_, _, eqr, Kd.R_mono (rt HO0_0.out BK454.out (by decide)) (fun _ hk => hk), Kd.R_mono (rt HO0_1.out BK454.out (by decide)) (fun _ hk => hk), bs HB.out, ts HK.out⟩
 ·rw [if_neg c4] at H
  have c4b0 : decide (t455 < 0) = false := decide_eq_false c4
  clear c4
  replace H := Option.bind_eq_some_iff.mp H
  obtain ⟨t456, A170, H⟩ := H
  try dsimp -simprocs only at H
  have A17 := Aside0.mk A170
  clear A170
  by_cases c18 : t456 = 0
  ·rw [if_pos c18] at H
   have c18b0 : (t456 == 0) = true := beq_iff_eq.mpr c18
   have c18b1 : (t456 != 0) = false := bne_eq_false_iff_eq.mpr c18
   clear c18
   by_cases c19 : a1_0 = 1
   ·rw [if_pos c19] at H
    have c19b0 : (a1_0 == 1) = true := beq_iff_eq.mpr c19
    have c19b1 : (a1_0 != 1) = false := bne_eq_false_iff_eq.mpr c19
    clear c19
    replace H := Option.bind_eq_some_iff.mp H
    obtain ⟨⟨t457, t460⟩, A200, H⟩ := H
    try dsimp -simprocs only at H
    have A20 := Aside0.mk A200
    clear A200
    replace H := Option.bind_eq_some_iff.mp H
    obtain ⟨⟨t463, t466⟩, A210, H⟩ := H
    try dsimp -simprocs only at H
    have A21 := Aside0.mk A210
    clear A210
    simp only [Option.some.injEq, Prod.mk.injEq] at H
    obtain ⟨rfl, rfl, rfl⟩ := H
    obtain ⟨Ao22, co22, eo22⟩ := Kd.R_slice HO0_0.out
    subst eo22
    obtain ⟨Ao23, co23, eo23⟩ := Kd.R_slice HO0_1.out
    subst eo23
    go_enter Try.func96, Try.ntmps96
    try go_wp2_with (first | ((with_reducible refine gd 2 rfl ?_); refine bx 2 (cs := #[.slice Ao22 l0_0.length co22, .slice Ao23 l0_1.length co23]) (t := 34) ?_; intro gb452 hg w24 hbox hb; replace HO0_0 := rb HO0_0 hb; replace HO0_1 := rb HO0_1 hb; have BK452 := Aside0.mk (hbox); have GW452 := Ge.mk ((by rw [hg]; exact (by first | exact HK.out.1 | exact (show Kept w _ (fun k_ => P0_0_ k_ ∨ P0_1_ k_) from ts HK.out).1) : w.heap.size ≤ gb452)); replace HK := kl HK hb; have GE452 := gwb HB hg; replace HB := hs HB hb; clear hb hbox hg) | ((with_reducible refine gd 3 rfl ?_); refine bx 3 (cs := #[.int .i64 a1_0, .int .i64 a1_1, .int .i64 a1_2, .int .i64 a1_3, .int .i64 a1_4, .int .i64 a1_5, .int .i64 a1_6, .int .i64 a1_7]) (t := 58) ?_; intro gb453 hg w25 hbox hb; replace HO0_0 := rb HO0_0 hb; replace HO0_1 := rb HO0_1 hb; have BK453 := Aside0.mk (hbox); have GW453 := Ge.mk ((by rw [hg]; exact (by first | exact HK.out.1 | exact (show Kept w _ (fun k_ => P0_0_ k_ ∨ P0_1_ k_) from ts HK.out).1) : w.heap.size ≤ gb453)); replace HK := kl HK hb; have GE453 := gwb HB hg; replace HB := hs HB hb; have NB452_453 := nq BK452 hg; have NB453_452 := nq' BK452 hg; replace BK452 := bb BK452 hb rfl; clear hb hbox hg) | ((with_reducible refine gd 4 rfl ?_); refine bx 4 (cs := #[.slice none 0 0, .slice none 0 0]) (t := 34) ?_; intro gb454 hg w26 hbox hb; replace HO0_0 := rb HO0_0 hb; replace HO0_1 := rb HO0_1 hb; have BK454 := Aside0.mk (hbox); have GW454 := Ge.mk ((by rw [hg]; exact (by first | exact HK.out.1 | exact (show Kept w _ (fun k_ => P0_0_ k_ ∨ P0_1_ k_) from ts HK.out).1) : w.heap.size ≤ gb454)); replace HK := kl HK hb; have GE454 := gwb HB hg; replace HB := hs HB hb; have NB452_454 := nq BK452 hg; have NB454_452 := nq' BK452 hg; replace BK452 := bb BK452 hb rfl; have NB453_454 := nq BK453 hg; have NB454_453 := nq' BK453 hg; replace BK453 := bb BK453 hb rfl; clear hb hbox hg; have hnb27 := NB453_452.out; have hnc27 := NB452_453.out; have hnb28 := NB453_454.out; have hnc28 := NB454_453.out; obtain ⟨hcz29_0, hcz29_1, hcz29_2, hcz29_3, hcz29_4, hcz29_5, hcz29_6, hcz29_7⟩ := bc8 (w := w26) BK453.out; have hfz29 := blk_frozen BK453.out) | ((with_reducible refine gc 44 rfl ?_); refine gl 8 Try.func44 #[.agg #[.int .i64 a1_0, .int .i64 a1_1, .int .i64 a1_2, .int .i64 a1_3, .int .i64 a1_4, .int .i64 a1_5, .int .i64 a1_6, .int .i64 a1_7]] ?_; (with_reducible refine (spec_OpLabel.calls k a1_0 a1_1 a1_2 a1_3 a1_4 a1_5 a1_6 a1_7 t455 _ A3.out).mono ?_); rintro e w30 ⟨rfl, hb⟩; refine ⟨_, rfl, ?_⟩; replace HO0_0 := rb HO0_0 hb; replace HO0_1 := rb HO0_1 hb; replace BK452 := bb BK452 hb rfl; replace BK453 := bb BK453 hb rfl; replace BK454 := bb BK454 hb rfl; replace HK := kl HK hb; replace HB := hs HB hb; (try clear hb); have hnb31 := NB452_454.out; have hnc31 := NB454_452.out; obtain ⟨hcz32_0, hcz32_1⟩ := bc2 (w := w30) BK452.out; have hfz32 := blk_frozen BK452.out; obtain ⟨hcz33_0, hcz33_1, hcz33_2, hcz33_3, hcz33_4, hcz33_5, hcz33_6, hcz33_7⟩ := bc8 (w := w30) BK453.out; have hfz33 := blk_frozen BK453.out) | ((with_reducible refine gc 123 rfl ?_); refine gl 13 Try.func123 #[.agg #[.slice Ao22 l0_0.length co22, .slice Ao23 l0_1.length co23], .agg #[.int .i64 a1_0, .int .i64 a1_1, .int .i64 a1_2, .int .i64 a1_3, .int .i64 a1_4, .int .i64 a1_5, .int .i64 a1_6, .int .i64 a1_7]] ?_; (with_reducible refine (spec_l2Ends.calls k _ _ l0_0 _ _ l0_1 a1_0 a1_1 a1_2 a1_3 a1_4 a1_5 a1_6 a1_7 t456 _ ?side1 ?side2 ?side3 ?side4 A17.out).mono ?_); (case side1 => exact cr HO0_0); (case side2 => exact (Kd.R_reads' HO0_0.out).2.1); (case side3 => exact cr HO0_1); (case side4 => exact (Kd.R_reads' HO0_1.out).2.1); rintro e w34 ⟨rfl, hb⟩; refine ⟨_, rfl, ?_⟩; replace HO0_0 := rb HO0_0 hb; replace HO0_1 := rb HO0_1 hb; replace BK452 := bb BK452 hb rfl; replace BK453 := bb BK453 hb rfl; replace BK454 := bb BK454 hb rfl; replace HK := kl HK hb; replace HB := hs HB hb; (try clear hb); obtain ⟨hcz35_0, hcz35_1, hcz35_2, hcz35_3, hcz35_4, hcz35_5, hcz35_6, hcz35_7⟩ := bc8 (w := w34) BK453.out; have hfz35 := blk_frozen BK453.out))
    replace HO0_0 := rd_ HO0_0
    replace HO0_1 := rd_ HO0_1
    replace BK452 := bd BK452
    replace BK453 := bd BK453
    replace BK454 := bd BK454
    replace HK := Aside0.mk (Kept.drew HK.out)
    replace HB := hd HB
    refine start_ (n := 8) (S := fun w' => w'.cell? ⟨gb452, 0, none⟩ = some (.slice Ao22 l0_0.length co22) ∧ w'.cell? ⟨gb452, 1, none⟩ = some (.slice Ao23 l0_1.length co23) ∧ w'.cell? ⟨gb453, 0, none⟩ = some (.int .i64 a1_0) ∧ w'.cell? ⟨gb453, 1, none⟩ = some (.int .i64 a1_1) ∧ w'.cell? ⟨gb453, 2, none⟩ = some (.int .i64 a1_2) ∧ w'.cell? ⟨gb453, 3, none⟩ = some (.int .i64 a1_3) ∧ w'.cell? ⟨gb453, 4, none⟩ = some (.int .i64 a1_4) ∧ w'.cell? ⟨gb453, 5, none⟩ = some (.int .i64 a1_5) ∧ w'.cell? ⟨gb453, 6, none⟩ = some (.int .i64 a1_6) ∧ w'.cell? ⟨gb453, 7, none⟩ = some (.int .i64 a1_7)) (ds := []) #[false, false, false, false, false, false, false, false] (by kernel_rfl) rfl rfl ⟨(blk_cell BK452.out 0).trans rfl, (blk_cell BK452.out 1).trans rfl, (blk_cell BK453.out 0).trans rfl, (blk_cell BK453.out 1).trans rfl, (blk_cell BK453.out 2).trans rfl, (blk_cell BK453.out 3).trans rfl, (blk_cell BK453.out 4).trans rfl, (blk_cell BK453.out 5).trans rfl, (blk_cell BK453.out 6).trans rfl, (blk_cell BK453.out 7).trans rfl⟩ (fun hHeld => ?_); refine with_tabW spec_l2Do.tab8 spec_l2Do.bits8 (fun HT_ HW_ => ?_)
    generalize w34.drew = w36 at HO0_0 HO0_1 BK452 BK453 BK454 HK HB hHeld ⊢
    refine pu 2 24 ?_
    refine pu 5 27 ?_
    refine tk 0 22 ?_
    refine tk 3 25 ?_
    refine one_ (i := 1) (N := some 23) #[true, true, true, true, false, true, false, false] rfl rfl (one_of HT_.out (by kernel_rfl)) (by decide) (fun K hK => ?_)
    refine gs Try.func97 #[.agg #[.slice Ao22 l0_0.length co22, .slice Ao23 l0_1.length co23]] ?_
    with_reducible refine (spec_l2Copy.calls _ _ l0_0 _ _ l0_1 t457 t460 _ ?side1 ?side2 ?side3 ?side4 A20.out).mono ?_
    (case side1 => exact cr HO0_0)
    (case side2 => exact (Kd.R_reads' HO0_0.out).2.1)
    (case side3 => exact cr HO0_1)
    (case side4 => exact (Kd.R_reads' HO0_1.out).2.1)
    rintro e w37 ⟨v458, v461, rfl, ho0, ho1, hb⟩
    refine ⟨_, rfl, ?_⟩
    have HO459 := Aside0.mk (Kd.R_lower (Kd.R_new' (Kd.R_newM (M := fun k_ => ((P0_0_ k_ ∨ P0_1_ k_) ∨ w.heap.size ≤ k_)) ho0 (by first | exact HK.out.1 | exact (show Kept w _ (fun k_ => P0_0_ k_ ∨ P0_1_ k_) from ts HK.out).1) (fun k_ h_ => .inr h_)) (Kd.R_lt (rl HO0_0.out))) (below_size (bs HB.out)))
    replace HO0_0 := Aside0.mk (Kd.R_elder' (rl HO0_0.out) (Kd.R_base ho0) hb)
    have HO462 := Aside0.mk (Kd.R_lower (Kd.R_new' (Kd.R_newM (M := fun k_ => ((P0_0_ k_ ∨ P0_1_ k_) ∨ w.heap.size ≤ k_)) ho1 (by first | exact HK.out.1 | exact (show Kept w _ (fun k_ => P0_0_ k_ ∨ P0_1_ k_) from ts HK.out).1) (fun k_ h_ => .inr h_)) (Kd.R_lt (rl HO0_1.out))) (below_size (bs HB.out)))
    replace HO0_1 := Aside0.mk (Kd.R_elder' (rl HO0_1.out) (Kd.R_base ho1) hb)
    replace BK452 := bb BK452 hb rfl
    replace BK453 := bb BK453 hb rfl
    replace BK454 := bb BK454 hb rfl
    replace HK := kl HK hb
    replace HB := hs HB hb
    (try clear hb)
    (try clear hb2)
    (try clear hk)
    (try clear hi)
    (try clear ho0)
    (try clear ho1)
    obtain ⟨Ao38, co38, eo38⟩ := Kd.R_slice HO459.out
    (first | subst eo38 | (injection eo38 with f1_ f2_ f3_; have f4_ := f1_.symm; have f5_ := f3_.symm; clear f1_ f2_ f3_; subst f4_; subst f5_))
    obtain ⟨Ao39, co39, eo39⟩ := Kd.R_slice HO462.out
    (first | subst eo39 | (injection eo39 with f1_ f2_ f3_; have f4_ := f1_.symm; have f5_ := f3_.symm; clear f1_ f2_ f3_; subst f4_; subst f5_))
    refine hK.out _ _ ⟨(blk_cell BK452.out 0).trans rfl, (blk_cell BK452.out 1).trans rfl, (blk_cell BK453.out 0).trans rfl, (blk_cell BK453.out 1).trans rfl, (blk_cell BK453.out 2).trans rfl, (blk_cell BK453.out 3).trans rfl, (blk_cell BK453.out 4).trans rfl, (blk_cell BK453.out 5).trans rfl, (blk_cell BK453.out 6).trans rfl, (blk_cell BK453.out 7).trans rfl⟩ (fun hHeld => ?_)
    clear hK K
    refine nrm 23 ?_
    refine one_ (i := 4) (N := some 26) #[true, true, true, true, true, true, false, false] rfl rfl (one_of HT_.out (by kernel_rfl)) (by decide) (fun K hK => ?_)
    refine gs Try.func109 #[.agg #[.slice Ao38 t457.length co38, .slice Ao39 t460.length co39], .agg #[.int .i64 a1_1, .int .i64 a1_2]] ?_
    with_reducible refine (spec_l2PutNode.calls k (fun k_ => some k_ = (.slice Ao38 t457.length co38 : Value).ownBlock) (.slice Ao38 t457.length co38) t457 (fun k_ => some k_ = (.slice Ao39 t460.length co39 : Value).ownBlock) (.slice Ao39 t460.length co39) t460 a1_1 a1_2 t463 t466 w0 _ ?side1 ?side2 ?side3 A21.out).mono ?_
    (case side1 => exact bs HB.out)
    (case side2 => exact Kd.R_tight rfl HO459.out)
    (case side3 => exact Kd.R_tight rfl HO462.out)
    rintro e w40 ⟨v464, v467, rfl, ho0, ho1, hb, hkp⟩
    refine ⟨_, rfl, ?_⟩
    replace BK452 := Aside0.mk (blk_kept (bf BK452.out) hkp (fun hs_ => Or.elim hs_ (fun e_ => (fun e_ => (Kd.R_ne HO459.out BK452.out (by decide)) e_) e_) (fun e_ => (fun e_ => (Kd.R_ne HO462.out BK452.out (by decide)) e_) e_)))
    replace BK453 := Aside0.mk (blk_kept (bf BK453.out) hkp (fun hs_ => Or.elim hs_ (fun e_ => (fun e_ => (Kd.R_ne HO459.out BK453.out (by decide)) e_) e_) (fun e_ => (fun e_ => (Kd.R_ne HO462.out BK453.out (by decide)) e_) e_)))
    replace BK454 := Aside0.mk (blk_kept (bf BK454.out) hkp (fun hs_ => Or.elim hs_ (fun e_ => (fun e_ => (Kd.R_ne HO459.out BK454.out (by decide)) e_) e_) (fun e_ => (fun e_ => (Kd.R_ne HO462.out BK454.out (by decide)) e_) e_)))
    have HO465 := Aside0.mk (Kd.R_mono (ok' := fun k_ => ((P0_0_ k_ ∨ P0_1_ k_) ∨ w.heap.size ≤ k_) ∧ some k_ ≠ (.slice Ao22 l0_0.length co22 : Value).ownBlock) ho0 (fun k_ hk_ => ⟨Or.elim hk_ (fun hs_ => Or.elim hs_ (fun hs_ => (HO459.out.1 k_ (hs_).symm).1.1) (fun hs_ => (HO462.out.1 k_ (hs_).symm).1.1)) (fun hn_ => (.inr (Nat.le_trans (by first | exact HK.out.1 | exact (show Kept w _ (fun k_ => P0_0_ k_ ∨ P0_1_ k_) from ts HK.out).1) hn_))), Or.elim hk_ (fun hs_ => Or.elim hs_ (fun hs_ => fun e_ => ((((Kd.R_apart' HO0_0.out (Kd.R_typed HO462.out) (by decide))).1 k_ e_.symm).1.2) hs_) (fun hs_ => fun e_ => ((((Kd.R_apart' HO0_0.out (Kd.R_typed HO462.out) (by decide))).1 k_ e_.symm).2) hs_)) (fun hn_ => (Kd.fresh' (Kd.R_lt (rl HO0_0.out)) k_ hn_))⟩))
    replace HO0_0 := Aside0.mk (Kd.R_mono (ok' := fun k_ => ((P0_0_ k_ ∨ P0_1_ k_) ∨ w.heap.size ≤ k_) ∧ some k_ ≠ (v464 : Value).ownBlock) (Kd.R_keptB ((Kd.R_apart' HO0_0.out (Kd.R_typed HO462.out) (by decide))) hkp (fun k_ hk_ hs_ => Or.elim hs_ (fun e_ => (hk_.1.2) e_) (fun e_ => (hk_.2) e_))) (fun k_ hk_ => ⟨hk_.1.1.1, fun e_ => Or.elim (ho0.1 k_ e_.symm) (fun hs_ => hk_.2.1 hs_) (fun hn_ => Nat.not_le.2 hk_.2.2 hn_)⟩))
    have HO468 := Aside0.mk (Kd.R_mono (ok' := fun k_ => ((P0_0_ k_ ∨ P0_1_ k_) ∨ w.heap.size ≤ k_) ∧ some k_ ≠ (.slice Ao23 l0_1.length co23 : Value).ownBlock) ho1 (fun k_ hk_ => ⟨Or.elim hk_ (fun hs_ => Or.elim hs_ (fun hs_ => (HO459.out.1 k_ (hs_).symm).1.1) (fun hs_ => (HO462.out.1 k_ (hs_).symm).1.1)) (fun hn_ => (.inr (Nat.le_trans (by first | exact HK.out.1 | exact (show Kept w _ (fun k_ => P0_0_ k_ ∨ P0_1_ k_) from ts HK.out).1) hn_))), Or.elim hk_ (fun hs_ => Or.elim hs_ (fun hs_ => fun e_ => ((((Kd.R_apart' HO0_1.out (Kd.R_typed HO459.out) (by decide))).1 k_ e_.symm).2) hs_) (fun hs_ => fun e_ => ((((Kd.R_apart' HO0_1.out (Kd.R_typed HO459.out) (by decide))).1 k_ e_.symm).1.2) hs_)) (fun hn_ => (Kd.fresh' (Kd.R_lt (rl HO0_1.out)) k_ hn_))⟩))
    replace HO0_1 := Aside0.mk (Kd.R_mono (ok' := fun k_ => ((P0_0_ k_ ∨ P0_1_ k_) ∨ w.heap.size ≤ k_) ∧ some k_ ≠ (v467 : Value).ownBlock) (Kd.R_keptB ((Kd.R_apart' HO0_1.out (Kd.R_typed HO459.out) (by decide))) hkp (fun k_ hk_ hs_ => Or.elim hs_ (fun e_ => (hk_.2) e_) (fun e_ => (hk_.1.2) e_))) (fun k_ hk_ => ⟨hk_.1.1.1, fun e_ => Or.elim (ho1.1 k_ e_.symm) (fun hs_ => hk_.2.1 hs_) (fun hn_ => Nat.not_le.2 hk_.2.2 hn_)⟩))
    replace HK := Aside0.mk (Kept.then_ (S := (fun k_ => P0_0_ k_ ∨ P0_1_ k_)) (ts HK.out) hkp (fun k_ hs_ => Or.elim hs_ (fun e_ => (fun e_ => (HO459.out.1 k_ e_.symm).1.1) e_) (fun e_ => (fun e_ => (HO462.out.1 k_ e_.symm).1.1) e_)))
    replace HB := Aside0.mk (hb)
    clear HO459 HO462
    (try clear hb)
    (try clear hkp)
    (try clear ho0)
    (try clear ho1)
    obtain ⟨Ao41, co41, eo41⟩ := Kd.R_slice HO465.out
    (first | subst eo41 | (injection eo41 with f1_ f2_ f3_; have f4_ := f1_.symm; have f5_ := f3_.symm; clear f1_ f2_ f3_; subst f4_; subst f5_))
    obtain ⟨Ao43, co43, eo43⟩ := Kd.R_slice HO468.out
    (first | subst eo43 | (injection eo43 with f1_ f2_ f3_; have f4_ := f1_.symm; have f5_ := f3_.symm; clear f1_ f2_ f3_; subst f4_; subst f5_))
    refine hK.out _ _ ⟨(blk_cell BK452.out 0).trans rfl, (blk_cell BK452.out 1).trans rfl, (blk_cell BK453.out 0).trans rfl, (blk_cell BK453.out 1).trans rfl, (blk_cell BK453.out 2).trans rfl, (blk_cell BK453.out 3).trans rfl, (blk_cell BK453.out 4).trans rfl, (blk_cell BK453.out 5).trans rfl, (blk_cell BK453.out 6).trans rfl, (blk_cell BK453.out 7).trans rfl⟩ (fun hHeld => ?_)
    clear hK K
    refine nrm 26 ?_
    refine one_ (i := 6) (N := none) #[true, true, true, true, true, true, true, false] rfl rfl (one_of HT_.out (by kernel_rfl)) (by decide) (fun K hK => ?_)
    have hs42 : w40.cell? ⟨gb454, 0, none⟩ = some (.slice none 0 0) := (blk_cell BK454.out 0).trans rfl
    have hfs42 := blk_frozen BK454.out 0
    have hns42_0 := NB452_454.out
    have hns42_1 := NB453_454.out
    have hms42_0 := NB454_452.out
    have hms42_1 := NB454_453.out
    have hs44 : w40.cell? ⟨gb454, 1, none⟩ = some (.slice none 0 0) := (blk_cell BK454.out 1).trans rfl
    have hfs44 := blk_frozen BK454.out 1
    have hns44_0 := NB452_454.out
    have hns44_1 := NB453_454.out
    have hms44_0 := NB454_452.out
    have hms44_1 := NB454_453.out
    refine skip_ (w1 := ?_) (by rfl) rfl ?_ ?_
    rotate_left
    ·go_simp
     rfl
    refine hK.out _ _ ⟨((cell_far (p := ⟨gb454, _, none⟩) NB452_454.out _).trans (((cell_far (p := ⟨gb454, _, none⟩) NB452_454.out _).trans (hHeld.1)))), ((cell_far (p := ⟨gb454, _, none⟩) NB452_454.out _).trans (((cell_far (p := ⟨gb454, _, none⟩) NB452_454.out _).trans (hHeld.2.1)))), ((cell_far (p := ⟨gb454, _, none⟩) NB453_454.out _).trans (((cell_far (p := ⟨gb454, _, none⟩) NB453_454.out _).trans (hHeld.2.2.1)))), ((cell_far (p := ⟨gb454, _, none⟩) NB453_454.out _).trans (((cell_far (p := ⟨gb454, _, none⟩) NB453_454.out _).trans (hHeld.2.2.2.1)))), ((cell_far (p := ⟨gb454, _, none⟩) NB453_454.out _).trans (((cell_far (p := ⟨gb454, _, none⟩) NB453_454.out _).trans (hHeld.2.2.2.2.1)))), ((cell_far (p := ⟨gb454, _, none⟩) NB453_454.out _).trans (((cell_far (p := ⟨gb454, _, none⟩) NB453_454.out _).trans (hHeld.2.2.2.2.2.1)))), ((cell_far (p := ⟨gb454, _, none⟩) NB453_454.out _).trans (((cell_far (p := ⟨gb454, _, none⟩) NB453_454.out _).trans (hHeld.2.2.2.2.2.2.1)))), ((cell_far (p := ⟨gb454, _, none⟩) NB453_454.out _).trans (((cell_far (p := ⟨gb454, _, none⟩) NB453_454.out _).trans (hHeld.2.2.2.2.2.2.2.1)))), ((cell_far (p := ⟨gb454, _, none⟩) NB453_454.out _).trans (((cell_far (p := ⟨gb454, _, none⟩) NB453_454.out _).trans (hHeld.2.2.2.2.2.2.2.2.1)))), ((cell_far (p := ⟨gb454, _, none⟩) NB453_454.out _).trans (((cell_far (p := ⟨gb454, _, none⟩) NB453_454.out _).trans (hHeld.2.2.2.2.2.2.2.2.2))))⟩ (fun hHeld => ?_)
    clear hK K
    refine pu 7 5 ?_
    refine done_ (done_of HT_.out (by kernel_rfl)) ?_
    try go_wp2
    refine bodyPost_ret (results_ct rfl _ _ gb454 34 #[.slice Ao41 t463.length co41, .slice Ao43 t466.length co43] (0, 0) _ rfl (bp BK454.out rfl) Try.underlying34 rfl (by kernel_rfl)) rfl ?_
    exact ⟨_, _, eqr, Kd.R_mono (rt HO465.out BK454.out (by decide)) (fun _ hk => hk.1), Kd.R_mono (rt HO468.out BK454.out (by decide)) (fun _ hk => hk.1), bs HB.out, ts HK.out⟩
   ·rw [if_neg c19] at H
    have c19b0 : (a1_0 == 1) = false := beq_eq_false_iff_ne.mpr c19
    have c19b1 : (a1_0 != 1) = true := bne_iff_ne.mpr c19
    by_cases c45 : a1_0 = 2
    ·rw [if_pos c45] at H
     have c45b0 : (a1_0 == 2) = true := beq_iff_eq.mpr c45
     have c45b1 : (a1_0 != 2) = false := bne_eq_false_iff_eq.mpr c45
     clear c45
     replace H := Option.bind_eq_some_iff.mp H
     obtain ⟨⟨t469, t472⟩, A460, H⟩ := H
     try dsimp -simprocs only at H
     have A46 := Aside0.mk A460
     clear A460
     replace H := Option.bind_eq_some_iff.mp H
     obtain ⟨⟨t475, t478⟩, A470, H⟩ := H
     try dsimp -simprocs only at H
     have A47 := Aside0.mk A470
     clear A470
     simp only [Option.some.injEq, Prod.mk.injEq] at H
     obtain ⟨rfl, rfl, rfl⟩ := H
     obtain ⟨Ao48, co48, eo48⟩ := Kd.R_slice HO0_0.out
     subst eo48
     obtain ⟨Ao49, co49, eo49⟩ := Kd.R_slice HO0_1.out
     subst eo49
     go_enter Try.func96, Try.ntmps96
     try go_wp2_with (first | ((with_reducible refine gd 2 rfl ?_); refine bx 2 (cs := #[.slice Ao48 l0_0.length co48, .slice Ao49 l0_1.length co49]) (t := 34) ?_; intro gb452 hg w50 hbox hb; replace HO0_0 := rb HO0_0 hb; replace HO0_1 := rb HO0_1 hb; have BK452 := Aside0.mk (hbox); have GW452 := Ge.mk ((by rw [hg]; exact (by first | exact HK.out.1 | exact (show Kept w _ (fun k_ => P0_0_ k_ ∨ P0_1_ k_) from ts HK.out).1) : w.heap.size ≤ gb452)); replace HK := kl HK hb; have GE452 := gwb HB hg; replace HB := hs HB hb; clear hb hbox hg) | ((with_reducible refine gd 3 rfl ?_); refine bx 3 (cs := #[.int .i64 a1_0, .int .i64 a1_1, .int .i64 a1_2, .int .i64 a1_3, .int .i64 a1_4, .int .i64 a1_5, .int .i64 a1_6, .int .i64 a1_7]) (t := 58) ?_; intro gb453 hg w51 hbox hb; replace HO0_0 := rb HO0_0 hb; replace HO0_1 := rb HO0_1 hb; have BK453 := Aside0.mk (hbox); have GW453 := Ge.mk ((by rw [hg]; exact (by first | exact HK.out.1 | exact (show Kept w _ (fun k_ => P0_0_ k_ ∨ P0_1_ k_) from ts HK.out).1) : w.heap.size ≤ gb453)); replace HK := kl HK hb; have GE453 := gwb HB hg; replace HB := hs HB hb; have NB452_453 := nq BK452 hg; have NB453_452 := nq' BK452 hg; replace BK452 := bb BK452 hb rfl; clear hb hbox hg) | ((with_reducible refine gd 4 rfl ?_); refine bx 4 (cs := #[.slice none 0 0, .slice none 0 0]) (t := 34) ?_; intro gb454 hg w52 hbox hb; replace HO0_0 := rb HO0_0 hb; replace HO0_1 := rb HO0_1 hb; have BK454 := Aside0.mk (hbox); have GW454 := Ge.mk ((by rw [hg]; exact (by first | exact HK.out.1 | exact (show Kept w _ (fun k_ => P0_0_ k_ ∨ P0_1_ k_) from ts HK.out).1) : w.heap.size ≤ gb454)); replace HK := kl HK hb; have GE454 := gwb HB hg; replace HB := hs HB hb; have NB452_454 := nq BK452 hg; have NB454_452 := nq' BK452 hg; replace BK452 := bb BK452 hb rfl; have NB453_454 := nq BK453 hg; have NB454_453 := nq' BK453 hg; replace BK453 := bb BK453 hb rfl; clear hb hbox hg; have hnb53 := NB453_452.out; have hnc53 := NB452_453.out; have hnb54 := NB453_454.out; have hnc54 := NB454_453.out; obtain ⟨hcz55_0, hcz55_1, hcz55_2, hcz55_3, hcz55_4, hcz55_5, hcz55_6, hcz55_7⟩ := bc8 (w := w52) BK453.out; have hfz55 := blk_frozen BK453.out) | ((with_reducible refine gc 44 rfl ?_); refine gl 8 Try.func44 #[.agg #[.int .i64 a1_0, .int .i64 a1_1, .int .i64 a1_2, .int .i64 a1_3, .int .i64 a1_4, .int .i64 a1_5, .int .i64 a1_6, .int .i64 a1_7]] ?_; (with_reducible refine (spec_OpLabel.calls k a1_0 a1_1 a1_2 a1_3 a1_4 a1_5 a1_6 a1_7 t455 _ A3.out).mono ?_); rintro e w56 ⟨rfl, hb⟩; refine ⟨_, rfl, ?_⟩; replace HO0_0 := rb HO0_0 hb; replace HO0_1 := rb HO0_1 hb; replace BK452 := bb BK452 hb rfl; replace BK453 := bb BK453 hb rfl; replace BK454 := bb BK454 hb rfl; replace HK := kl HK hb; replace HB := hs HB hb; (try clear hb); have hnb57 := NB452_454.out; have hnc57 := NB454_452.out; obtain ⟨hcz58_0, hcz58_1⟩ := bc2 (w := w56) BK452.out; have hfz58 := blk_frozen BK452.out; obtain ⟨hcz59_0, hcz59_1, hcz59_2, hcz59_3, hcz59_4, hcz59_5, hcz59_6, hcz59_7⟩ := bc8 (w := w56) BK453.out; have hfz59 := blk_frozen BK453.out) | ((with_reducible refine gc 123 rfl ?_); refine gl 13 Try.func123 #[.agg #[.slice Ao48 l0_0.length co48, .slice Ao49 l0_1.length co49], .agg #[.int .i64 a1_0, .int .i64 a1_1, .int .i64 a1_2, .int .i64 a1_3, .int .i64 a1_4, .int .i64 a1_5, .int .i64 a1_6, .int .i64 a1_7]] ?_; (with_reducible refine (spec_l2Ends.calls k _ _ l0_0 _ _ l0_1 a1_0 a1_1 a1_2 a1_3 a1_4 a1_5 a1_6 a1_7 t456 _ ?side1 ?side2 ?side3 ?side4 A17.out).mono ?_); (case side1 => exact cr HO0_0); (case side2 => exact (Kd.R_reads' HO0_0.out).2.1); (case side3 => exact cr HO0_1); (case side4 => exact (Kd.R_reads' HO0_1.out).2.1); rintro e w60 ⟨rfl, hb⟩; refine ⟨_, rfl, ?_⟩; replace HO0_0 := rb HO0_0 hb; replace HO0_1 := rb HO0_1 hb; replace BK452 := bb BK452 hb rfl; replace BK453 := bb BK453 hb rfl; replace BK454 := bb BK454 hb rfl; replace HK := kl HK hb; replace HB := hs HB hb; (try clear hb); obtain ⟨hcz61_0, hcz61_1, hcz61_2, hcz61_3, hcz61_4, hcz61_5, hcz61_6, hcz61_7⟩ := bc8 (w := w60) BK453.out; have hfz61 := blk_frozen BK453.out))
     replace HO0_0 := rd_ HO0_0
     replace HO0_1 := rd_ HO0_1
     replace BK452 := bd BK452
     replace BK453 := bd BK453
     replace BK454 := bd BK454
     replace HK := Aside0.mk (Kept.drew HK.out)
     replace HB := hd HB
     refine start_ (n := 8) (S := fun w' => w'.cell? ⟨gb452, 0, none⟩ = some (.slice Ao48 l0_0.length co48) ∧ w'.cell? ⟨gb452, 1, none⟩ = some (.slice Ao49 l0_1.length co49) ∧ w'.cell? ⟨gb453, 0, none⟩ = some (.int .i64 a1_0) ∧ w'.cell? ⟨gb453, 1, none⟩ = some (.int .i64 a1_1) ∧ w'.cell? ⟨gb453, 2, none⟩ = some (.int .i64 a1_2) ∧ w'.cell? ⟨gb453, 3, none⟩ = some (.int .i64 a1_3) ∧ w'.cell? ⟨gb453, 4, none⟩ = some (.int .i64 a1_4) ∧ w'.cell? ⟨gb453, 5, none⟩ = some (.int .i64 a1_5) ∧ w'.cell? ⟨gb453, 6, none⟩ = some (.int .i64 a1_6) ∧ w'.cell? ⟨gb453, 7, none⟩ = some (.int .i64 a1_7)) (ds := []) #[false, false, false, false, false, false, false, false] (by kernel_rfl) rfl rfl ⟨(blk_cell BK452.out 0).trans rfl, (blk_cell BK452.out 1).trans rfl, (blk_cell BK453.out 0).trans rfl, (blk_cell BK453.out 1).trans rfl, (blk_cell BK453.out 2).trans rfl, (blk_cell BK453.out 3).trans rfl, (blk_cell BK453.out 4).trans rfl, (blk_cell BK453.out 5).trans rfl, (blk_cell BK453.out 6).trans rfl, (blk_cell BK453.out 7).trans rfl⟩ (fun hHeld => ?_); refine with_tabW spec_l2Do.tab10 spec_l2Do.bits10 (fun HT_ HW_ => ?_)
     generalize w60.drew = w62 at HO0_0 HO0_1 BK452 BK453 BK454 HK HB hHeld ⊢
     refine pu 2 32 ?_
     refine pu 5 35 ?_
     refine tk 0 30 ?_
     refine tk 3 33 ?_
     refine one_ (i := 1) (N := some 31) #[true, true, true, true, false, true, false, false] rfl rfl (one_of HT_.out (by kernel_rfl)) (by decide) (fun K hK => ?_)
     refine gs Try.func97 #[.agg #[.slice Ao48 l0_0.length co48, .slice Ao49 l0_1.length co49]] ?_
     with_reducible refine (spec_l2Copy.calls _ _ l0_0 _ _ l0_1 t469 t472 _ ?side1 ?side2 ?side3 ?side4 A46.out).mono ?_
     (case side1 => exact cr HO0_0)
     (case side2 => exact (Kd.R_reads' HO0_0.out).2.1)
     (case side3 => exact cr HO0_1)
     (case side4 => exact (Kd.R_reads' HO0_1.out).2.1)
     rintro e w63 ⟨v470, v473, rfl, ho0, ho1, hb⟩
     refine ⟨_, rfl, ?_⟩
     have HO471 := Aside0.mk (Kd.R_lower (Kd.R_new' (Kd.R_newM (M := fun k_ => ((P0_0_ k_ ∨ P0_1_ k_) ∨ w.heap.size ≤ k_)) ho0 (by first | exact HK.out.1 | exact (show Kept w _ (fun k_ => P0_0_ k_ ∨ P0_1_ k_) from ts HK.out).1) (fun k_ h_ => .inr h_)) (Kd.R_lt (rl HO0_0.out))) (below_size (bs HB.out)))
     replace HO0_0 := Aside0.mk (Kd.R_elder' (rl HO0_0.out) (Kd.R_base ho0) hb)
     have HO474 := Aside0.mk (Kd.R_lower (Kd.R_new' (Kd.R_newM (M := fun k_ => ((P0_0_ k_ ∨ P0_1_ k_) ∨ w.heap.size ≤ k_)) ho1 (by first | exact HK.out.1 | exact (show Kept w _ (fun k_ => P0_0_ k_ ∨ P0_1_ k_) from ts HK.out).1) (fun k_ h_ => .inr h_)) (Kd.R_lt (rl HO0_1.out))) (below_size (bs HB.out)))
     replace HO0_1 := Aside0.mk (Kd.R_elder' (rl HO0_1.out) (Kd.R_base ho1) hb)
     replace BK452 := bb BK452 hb rfl
     replace BK453 := bb BK453 hb rfl
     replace BK454 := bb BK454 hb rfl
     replace HK := kl HK hb
     replace HB := hs HB hb
     (try clear hb)
     (try clear hb2)
     (try clear hk)
     (try clear hi)
     (try clear ho0)
     (try clear ho1)
     obtain ⟨Ao64, co64, eo64⟩ := Kd.R_slice HO471.out
     (first | subst eo64 | (injection eo64 with f1_ f2_ f3_; have f4_ := f1_.symm; have f5_ := f3_.symm; clear f1_ f2_ f3_; subst f4_; subst f5_))
     obtain ⟨Ao65, co65, eo65⟩ := Kd.R_slice HO474.out
     (first | subst eo65 | (injection eo65 with f1_ f2_ f3_; have f4_ := f1_.symm; have f5_ := f3_.symm; clear f1_ f2_ f3_; subst f4_; subst f5_))
     refine hK.out _ _ ⟨(blk_cell BK452.out 0).trans rfl, (blk_cell BK452.out 1).trans rfl, (blk_cell BK453.out 0).trans rfl, (blk_cell BK453.out 1).trans rfl, (blk_cell BK453.out 2).trans rfl, (blk_cell BK453.out 3).trans rfl, (blk_cell BK453.out 4).trans rfl, (blk_cell BK453.out 5).trans rfl, (blk_cell BK453.out 6).trans rfl, (blk_cell BK453.out 7).trans rfl⟩ (fun hHeld => ?_)
     clear hK K
     refine nrm 31 ?_
     refine one_ (i := 4) (N := some 34) #[true, true, true, true, true, true, false, false] rfl rfl (one_of HT_.out (by kernel_rfl)) (by decide) (fun K hK => ?_)
     refine gs Try.func124 #[.agg #[.slice Ao64 t469.length co64, .slice Ao65 t472.length co65], .agg #[.int .i64 a1_3, .int .i64 a1_4, .int .i64 a1_5, .int .i64 a1_6, .int .i64 a1_7]] ?_
     with_reducible refine (spec_l2PutEdge.calls k (fun k_ => some k_ = (.slice Ao64 t469.length co64 : Value).ownBlock) (.slice Ao64 t469.length co64) t469 (fun k_ => some k_ = (.slice Ao65 t472.length co65 : Value).ownBlock) (.slice Ao65 t472.length co65) t472 a1_3 a1_4 a1_5 a1_6 a1_7 t475 t478 w0 _ ?side1 ?side2 ?side3 A47.out).mono ?_
     (case side1 => exact bs HB.out)
     (case side2 => exact Kd.R_tight rfl HO471.out)
     (case side3 => exact Kd.R_tight rfl HO474.out)
     rintro e w66 ⟨v476, v479, rfl, ho0, ho1, hb, hkp⟩
     refine ⟨_, rfl, ?_⟩
     replace BK452 := Aside0.mk (blk_kept (bf BK452.out) hkp (fun hs_ => Or.elim hs_ (fun e_ => (fun e_ => (Kd.R_ne HO471.out BK452.out (by decide)) e_) e_) (fun e_ => (fun e_ => (Kd.R_ne HO474.out BK452.out (by decide)) e_) e_)))
     replace BK453 := Aside0.mk (blk_kept (bf BK453.out) hkp (fun hs_ => Or.elim hs_ (fun e_ => (fun e_ => (Kd.R_ne HO471.out BK453.out (by decide)) e_) e_) (fun e_ => (fun e_ => (Kd.R_ne HO474.out BK453.out (by decide)) e_) e_)))
     replace BK454 := Aside0.mk (blk_kept (bf BK454.out) hkp (fun hs_ => Or.elim hs_ (fun e_ => (fun e_ => (Kd.R_ne HO471.out BK454.out (by decide)) e_) e_) (fun e_ => (fun e_ => (Kd.R_ne HO474.out BK454.out (by decide)) e_) e_)))
     have HO477 := Aside0.mk (Kd.R_mono (ok' := fun k_ => ((P0_0_ k_ ∨ P0_1_ k_) ∨ w.heap.size ≤ k_) ∧ some k_ ≠ (.slice Ao48 l0_0.length co48 : Value).ownBlock) ho0 (fun k_ hk_ => ⟨Or.elim hk_ (fun hs_ => Or.elim hs_ (fun hs_ => (HO471.out.1 k_ (hs_).symm).1.1) (fun hs_ => (HO474.out.1 k_ (hs_).symm).1.1)) (fun hn_ => (.inr (Nat.le_trans (by first | exact HK.out.1 | exact (show Kept w _ (fun k_ => P0_0_ k_ ∨ P0_1_ k_) from ts HK.out).1) hn_))), Or.elim hk_ (fun hs_ => Or.elim hs_ (fun hs_ => fun e_ => ((((Kd.R_apart' HO0_0.out (Kd.R_typed HO474.out) (by decide))).1 k_ e_.symm).1.2) hs_) (fun hs_ => fun e_ => ((((Kd.R_apart' HO0_0.out (Kd.R_typed HO474.out) (by decide))).1 k_ e_.symm).2) hs_)) (fun hn_ => (Kd.fresh' (Kd.R_lt (rl HO0_0.out)) k_ hn_))⟩))
     replace HO0_0 := Aside0.mk (Kd.R_mono (ok' := fun k_ => ((P0_0_ k_ ∨ P0_1_ k_) ∨ w.heap.size ≤ k_) ∧ some k_ ≠ (v476 : Value).ownBlock) (Kd.R_keptB ((Kd.R_apart' HO0_0.out (Kd.R_typed HO474.out) (by decide))) hkp (fun k_ hk_ hs_ => Or.elim hs_ (fun e_ => (hk_.1.2) e_) (fun e_ => (hk_.2) e_))) (fun k_ hk_ => ⟨hk_.1.1.1, fun e_ => Or.elim (ho0.1 k_ e_.symm) (fun hs_ => hk_.2.1 hs_) (fun hn_ => Nat.not_le.2 hk_.2.2 hn_)⟩))
     have HO480 := Aside0.mk (Kd.R_mono (ok' := fun k_ => ((P0_0_ k_ ∨ P0_1_ k_) ∨ w.heap.size ≤ k_) ∧ some k_ ≠ (.slice Ao49 l0_1.length co49 : Value).ownBlock) ho1 (fun k_ hk_ => ⟨Or.elim hk_ (fun hs_ => Or.elim hs_ (fun hs_ => (HO471.out.1 k_ (hs_).symm).1.1) (fun hs_ => (HO474.out.1 k_ (hs_).symm).1.1)) (fun hn_ => (.inr (Nat.le_trans (by first | exact HK.out.1 | exact (show Kept w _ (fun k_ => P0_0_ k_ ∨ P0_1_ k_) from ts HK.out).1) hn_))), Or.elim hk_ (fun hs_ => Or.elim hs_ (fun hs_ => fun e_ => ((((Kd.R_apart' HO0_1.out (Kd.R_typed HO471.out) (by decide))).1 k_ e_.symm).2) hs_) (fun hs_ => fun e_ => ((((Kd.R_apart' HO0_1.out (Kd.R_typed HO471.out) (by decide))).1 k_ e_.symm).1.2) hs_)) (fun hn_ => (Kd.fresh' (Kd.R_lt (rl HO0_1.out)) k_ hn_))⟩))
     replace HO0_1 := Aside0.mk (Kd.R_mono (ok' := fun k_ => ((P0_0_ k_ ∨ P0_1_ k_) ∨ w.heap.size ≤ k_) ∧ some k_ ≠ (v479 : Value).ownBlock) (Kd.R_keptB ((Kd.R_apart' HO0_1.out (Kd.R_typed HO471.out) (by decide))) hkp (fun k_ hk_ hs_ => Or.elim hs_ (fun e_ => (hk_.2) e_) (fun e_ => (hk_.1.2) e_))) (fun k_ hk_ => ⟨hk_.1.1.1, fun e_ => Or.elim (ho1.1 k_ e_.symm) (fun hs_ => hk_.2.1 hs_) (fun hn_ => Nat.not_le.2 hk_.2.2 hn_)⟩))
     replace HK := Aside0.mk (Kept.then_ (S := (fun k_ => P0_0_ k_ ∨ P0_1_ k_)) (ts HK.out) hkp (fun k_ hs_ => Or.elim hs_ (fun e_ => (fun e_ => (HO471.out.1 k_ e_.symm).1.1) e_) (fun e_ => (fun e_ => (HO474.out.1 k_ e_.symm).1.1) e_)))
     replace HB := Aside0.mk (hb)
     clear HO471 HO474
     (try clear hb)
     (try clear hkp)
     (try clear ho0)
     (try clear ho1)
     obtain ⟨Ao67, co67, eo67⟩ := Kd.R_slice HO477.out
     (first | subst eo67 | (injection eo67 with f1_ f2_ f3_; have f4_ := f1_.symm; have f5_ := f3_.symm; clear f1_ f2_ f3_; subst f4_; subst f5_))
     obtain ⟨Ao69, co69, eo69⟩ := Kd.R_slice HO480.out
     (first | subst eo69 | (injection eo69 with f1_ f2_ f3_; have f4_ := f1_.symm; have f5_ := f3_.symm; clear f1_ f2_ f3_; subst f4_; subst f5_))
     refine hK.out _ _ ⟨(blk_cell BK452.out 0).trans rfl, (blk_cell BK452.out 1).trans rfl, (blk_cell BK453.out 0).trans rfl, (blk_cell BK453.out 1).trans rfl, (blk_cell BK453.out 2).trans rfl, (blk_cell BK453.out 3).trans rfl, (blk_cell BK453.out 4).trans rfl, (blk_cell BK453.out 5).trans rfl, (blk_cell BK453.out 6).trans rfl, (blk_cell BK453.out 7).trans rfl⟩ (fun hHeld => ?_)
     clear hK K
     refine nrm 34 ?_
     refine one_ (i := 6) (N := none) #[true, true, true, true, true, true, true, false] rfl rfl (one_of HT_.out (by kernel_rfl)) (by decide) (fun K hK => ?_)
     have hs68 : w66.cell? ⟨gb454, 0, none⟩ = some (.slice none 0 0) := (blk_cell BK454.out 0).trans rfl
     have hfs68 := blk_frozen BK454.out 0
     have hns68_0 := NB452_454.out
     have hns68_1 := NB453_454.out
     have hms68_0 := NB454_452.out
     have hms68_1 := NB454_453.out
     have hs70 : w66.cell? ⟨gb454, 1, none⟩ = some (.slice none 0 0) := (blk_cell BK454.out 1).trans rfl
     have hfs70 := blk_frozen BK454.out 1
     have hns70_0 := NB452_454.out
     have hns70_1 := NB453_454.out
     have hms70_0 := NB454_452.out
     have hms70_1 := NB454_453.out
     refine skip_ (w1 := ?_) (by rfl) rfl ?_ ?_
     rotate_left
     ·go_simp
      rfl
     refine hK.out _ _ ⟨((cell_far (p := ⟨gb454, _, none⟩) NB452_454.out _).trans (((cell_far (p := ⟨gb454, _, none⟩) NB452_454.out _).trans (hHeld.1)))), ((cell_far (p := ⟨gb454, _, none⟩) NB452_454.out _).trans (((cell_far (p := ⟨gb454, _, none⟩) NB452_454.out _).trans (hHeld.2.1)))), ((cell_far (p := ⟨gb454, _, none⟩) NB453_454.out _).trans (((cell_far (p := ⟨gb454, _, none⟩) NB453_454.out _).trans (hHeld.2.2.1)))), ((cell_far (p := ⟨gb454, _, none⟩) NB453_454.out _).trans (((cell_far (p := ⟨gb454, _, none⟩) NB453_454.out _).trans (hHeld.2.2.2.1)))), ((cell_far (p := ⟨gb454, _, none⟩) NB453_454.out _).trans (((cell_far (p := ⟨gb454, _, none⟩) NB453_454.out _).trans (hHeld.2.2.2.2.1)))), ((cell_far (p := ⟨gb454, _, none⟩) NB453_454.out _).trans (((cell_far (p := ⟨gb454, _, none⟩) NB453_454.out _).trans (hHeld.2.2.2.2.2.1)))), ((cell_far (p := ⟨gb454, _, none⟩) NB453_454.out _).trans (((cell_far (p := ⟨gb454, _, none⟩) NB453_454.out _).trans (hHeld.2.2.2.2.2.2.1)))), ((cell_far (p := ⟨gb454, _, none⟩) NB453_454.out _).trans (((cell_far (p := ⟨gb454, _, none⟩) NB453_454.out _).trans (hHeld.2.2.2.2.2.2.2.1)))), ((cell_far (p := ⟨gb454, _, none⟩) NB453_454.out _).trans (((cell_far (p := ⟨gb454, _, none⟩) NB453_454.out _).trans (hHeld.2.2.2.2.2.2.2.2.1)))), ((cell_far (p := ⟨gb454, _, none⟩) NB453_454.out _).trans (((cell_far (p := ⟨gb454, _, none⟩) NB453_454.out _).trans (hHeld.2.2.2.2.2.2.2.2.2))))⟩ (fun hHeld => ?_)
     clear hK K
     refine pu 7 5 ?_
     refine done_ (done_of HT_.out (by kernel_rfl)) ?_
     try go_wp2
     refine bodyPost_ret (results_ct rfl _ _ gb454 34 #[.slice Ao67 t475.length co67, .slice Ao69 t478.length co69] (0, 0) _ rfl (bp BK454.out rfl) Try.underlying34 rfl (by kernel_rfl)) rfl ?_
     exact ⟨_, _, eqr, Kd.R_mono (rt HO477.out BK454.out (by decide)) (fun _ hk => hk.1), Kd.R_mono (rt HO480.out BK454.out (by decide)) (fun _ hk => hk.1), bs HB.out, ts HK.out⟩
    ·rw [if_neg c45] at H
     have c45b0 : (a1_0 == 2) = false := beq_eq_false_iff_ne.mpr c45
     have c45b1 : (a1_0 != 2) = true := bne_iff_ne.mpr c45
     by_cases c71 : a1_0 = 3
     ·rw [if_pos c71] at H
      have c71b0 : (a1_0 == 3) = true := beq_iff_eq.mpr c71
      have c71b1 : (a1_0 != 3) = false := bne_eq_false_iff_eq.mpr c71
      clear c71
      replace H := Option.bind_eq_some_iff.mp H
      obtain ⟨⟨t481, t484⟩, A720, H⟩ := H
      try dsimp -simprocs only at H
      have A72 := Aside0.mk A720
      clear A720
      simp only [Option.some.injEq, Prod.mk.injEq] at H
      obtain ⟨rfl, rfl, rfl⟩ := H
      obtain ⟨Ao73, co73, eo73⟩ := Kd.R_slice HO0_0.out
      subst eo73
      obtain ⟨Ao74, co74, eo74⟩ := Kd.R_slice HO0_1.out
      subst eo74
      go_enter Try.func96, Try.ntmps96
      go_wp2_with (first | ((with_reducible refine gd 2 rfl ?_); refine bx 2 (cs := #[.slice Ao73 l0_0.length co73, .slice Ao74 l0_1.length co74]) (t := 34) ?_; intro gb452 hg w75 hbox hb; replace HO0_0 := rb HO0_0 hb; replace HO0_1 := rb HO0_1 hb; have BK452 := Aside0.mk (hbox); have GW452 := Ge.mk ((by rw [hg]; exact (by first | exact HK.out.1 | exact (show Kept w _ (fun k_ => P0_0_ k_ ∨ P0_1_ k_) from ts HK.out).1) : w.heap.size ≤ gb452)); replace HK := kl HK hb; have GE452 := gwb HB hg; replace HB := hs HB hb; clear hb hbox hg) | ((with_reducible refine gd 3 rfl ?_); refine bx 3 (cs := #[.int .i64 a1_0, .int .i64 a1_1, .int .i64 a1_2, .int .i64 a1_3, .int .i64 a1_4, .int .i64 a1_5, .int .i64 a1_6, .int .i64 a1_7]) (t := 58) ?_; intro gb453 hg w76 hbox hb; replace HO0_0 := rb HO0_0 hb; replace HO0_1 := rb HO0_1 hb; have BK453 := Aside0.mk (hbox); have GW453 := Ge.mk ((by rw [hg]; exact (by first | exact HK.out.1 | exact (show Kept w _ (fun k_ => P0_0_ k_ ∨ P0_1_ k_) from ts HK.out).1) : w.heap.size ≤ gb453)); replace HK := kl HK hb; have GE453 := gwb HB hg; replace HB := hs HB hb; have NB452_453 := nq BK452 hg; have NB453_452 := nq' BK452 hg; replace BK452 := bb BK452 hb rfl; clear hb hbox hg) | ((with_reducible refine gd 4 rfl ?_); refine bx 4 (cs := #[.slice none 0 0, .slice none 0 0]) (t := 34) ?_; intro gb454 hg w77 hbox hb; replace HO0_0 := rb HO0_0 hb; replace HO0_1 := rb HO0_1 hb; have BK454 := Aside0.mk (hbox); have GW454 := Ge.mk ((by rw [hg]; exact (by first | exact HK.out.1 | exact (show Kept w _ (fun k_ => P0_0_ k_ ∨ P0_1_ k_) from ts HK.out).1) : w.heap.size ≤ gb454)); replace HK := kl HK hb; have GE454 := gwb HB hg; replace HB := hs HB hb; have NB452_454 := nq BK452 hg; have NB454_452 := nq' BK452 hg; replace BK452 := bb BK452 hb rfl; have NB453_454 := nq BK453 hg; have NB454_453 := nq' BK453 hg; replace BK453 := bb BK453 hb rfl; clear hb hbox hg; have hnb78 := NB453_452.out; have hnc78 := NB452_453.out; have hnb79 := NB453_454.out; have hnc79 := NB454_453.out; obtain ⟨hcz80_0, hcz80_1, hcz80_2, hcz80_3, hcz80_4, hcz80_5, hcz80_6, hcz80_7⟩ := bc8 (w := w77) BK453.out; have hfz80 := blk_frozen BK453.out) | ((with_reducible refine gc 44 rfl ?_); refine gl 8 Try.func44 #[.agg #[.int .i64 a1_0, .int .i64 a1_1, .int .i64 a1_2, .int .i64 a1_3, .int .i64 a1_4, .int .i64 a1_5, .int .i64 a1_6, .int .i64 a1_7]] ?_; (with_reducible refine (spec_OpLabel.calls k a1_0 a1_1 a1_2 a1_3 a1_4 a1_5 a1_6 a1_7 t455 _ A3.out).mono ?_); rintro e w81 ⟨rfl, hb⟩; refine ⟨_, rfl, ?_⟩; replace HO0_0 := rb HO0_0 hb; replace HO0_1 := rb HO0_1 hb; replace BK452 := bb BK452 hb rfl; replace BK453 := bb BK453 hb rfl; replace BK454 := bb BK454 hb rfl; replace HK := kl HK hb; replace HB := hs HB hb; (try clear hb); have hnb82 := NB452_454.out; have hnc82 := NB454_452.out; obtain ⟨hcz83_0, hcz83_1⟩ := bc2 (w := w81) BK452.out; have hfz83 := blk_frozen BK452.out; obtain ⟨hcz84_0, hcz84_1, hcz84_2, hcz84_3, hcz84_4, hcz84_5, hcz84_6, hcz84_7⟩ := bc8 (w := w81) BK453.out; have hfz84 := blk_frozen BK453.out) | ((with_reducible refine gc 123 rfl ?_); refine gl 13 Try.func123 #[.agg #[.slice Ao73 l0_0.length co73, .slice Ao74 l0_1.length co74], .agg #[.int .i64 a1_0, .int .i64 a1_1, .int .i64 a1_2, .int .i64 a1_3, .int .i64 a1_4, .int .i64 a1_5, .int .i64 a1_6, .int .i64 a1_7]] ?_; (with_reducible refine (spec_l2Ends.calls k _ _ l0_0 _ _ l0_1 a1_0 a1_1 a1_2 a1_3 a1_4 a1_5 a1_6 a1_7 t456 _ ?side1 ?side2 ?side3 ?side4 A17.out).mono ?_); (case side1 => exact cr HO0_0); (case side2 => exact (Kd.R_reads' HO0_0.out).2.1); (case side3 => exact cr HO0_1); (case side4 => exact (Kd.R_reads' HO0_1.out).2.1); rintro e w85 ⟨rfl, hb⟩; refine ⟨_, rfl, ?_⟩; replace HO0_0 := rb HO0_0 hb; replace HO0_1 := rb HO0_1 hb; replace BK452 := bb BK452 hb rfl; replace BK453 := bb BK453 hb rfl; replace BK454 := bb BK454 hb rfl; replace HK := kl HK hb; replace HB := hs HB hb; (try clear hb); obtain ⟨hcz86_0, hcz86_1, hcz86_2, hcz86_3, hcz86_4, hcz86_5, hcz86_6, hcz86_7⟩ := bc8 (w := w85) BK453.out; have hfz86 := blk_frozen BK453.out; obtain ⟨hcz87_0, hcz87_1⟩ := bc2 (w := w85) BK452.out; have hfz87 := blk_frozen BK452.out) | ((with_reducible refine gc 125 rfl ?_); refine gl 41 Try.func125 #[.agg #[.slice Ao73 l0_0.length co73, .slice Ao74 l0_1.length co74], .agg #[.int .i64 a1_3, .int .i64 a1_4, .int .i64 a1_5, .int .i64 a1_6, .int .i64 a1_7]] ?_; (with_reducible refine (spec_l2Cut.calls k (fun k_ => some k_ = (.slice Ao73 l0_0.length co73 : Value).ownBlock) (.slice Ao73 l0_0.length co73) l0_0 _ _ l0_1 a1_3 a1_4 a1_5 a1_6 a1_7 t481 t484 w0 _ ?side1 ?side2 ?side3 ?side4 A72.out).mono ?_); (case side1 => exact bs HB.out); (case side2 => exact Kd.R_tight rfl HO0_0.out); (case side3 => exact Kd.C_kept_own ((Kd.R_apart' HO0_1.out (Kd.R_typed HO0_0.out) (by decide))) (fun k_ hk_ hs_ => (hk_.2) hs_)); (case side4 => exact (Kd.R_reads' HO0_1.out).2.1); rintro e w88 ⟨v482, v485, rfl, ho0, ho1, hb, hkp⟩; refine ⟨_, rfl, ?_⟩; replace BK452 := Aside0.mk (blk_kept (bf BK452.out) hkp (fun hs_ => (fun e_ => (Kd.R_ne HO0_0.out BK452.out (by decide)) e_) hs_)); replace BK453 := Aside0.mk (blk_kept (bf BK453.out) hkp (fun hs_ => (fun e_ => (Kd.R_ne HO0_0.out BK453.out (by decide)) e_) hs_)); replace BK454 := Aside0.mk (blk_kept (bf BK454.out) hkp (fun hs_ => (fun e_ => (Kd.R_ne HO0_0.out BK454.out (by decide)) e_) hs_)); have HO483 := Aside0.mk (Kd.R_mono (ok' := fun k_ => ((P0_0_ k_ ∨ P0_1_ k_) ∨ w.heap.size ≤ k_)) ho0 (fun k_ hk_ => Or.elim hk_ (fun hs_ => (HO0_0.out.1 k_ (hs_).symm)) (fun hn_ => (.inr (Nat.le_trans (by first | exact HK.out.1 | exact (show Kept w _ (fun k_ => P0_0_ k_ ∨ P0_1_ k_) from ts HK.out).1) hn_))))); have HO486 := Aside0.mk (Kd.R_mono (ok' := fun k_ => ((P0_0_ k_ ∨ P0_1_ k_) ∨ w.heap.size ≤ k_) ∧ some k_ ≠ (.slice Ao74 l0_1.length co74 : Value).ownBlock) ho1 (fun k_ hk_ => ⟨Or.elim hk_ (fun hs_ => (HO0_0.out.1 k_ (hs_).symm)) (fun hn_ => (.inr (Nat.le_trans (by first | exact HK.out.1 | exact (show Kept w _ (fun k_ => P0_0_ k_ ∨ P0_1_ k_) from ts HK.out).1) hn_))), Or.elim hk_ (fun hs_ => fun e_ => ((((Kd.R_apart' HO0_1.out (Kd.R_typed HO0_0.out) (by decide))).1 k_ e_.symm).2) hs_) (fun hn_ => (Kd.fresh' (Kd.R_lt (rl HO0_1.out)) k_ hn_))⟩)); replace HO0_1 := Aside0.mk (Kd.R_mono (ok' := fun k_ => ((P0_0_ k_ ∨ P0_1_ k_) ∨ w.heap.size ≤ k_) ∧ some k_ ≠ (v485 : Value).ownBlock) (Kd.R_keptB ((Kd.R_apart' HO0_1.out (Kd.R_typed HO0_0.out) (by decide))) hkp (fun k_ hk_ hs_ => (hk_.2) hs_)) (fun k_ hk_ => ⟨hk_.1.1, fun e_ => Or.elim (ho1.1 k_ e_.symm) (fun hs_ => hk_.2.1 hs_) (fun hn_ => Nat.not_le.2 hk_.2.2 hn_)⟩)); replace HK := Aside0.mk (Kept.then_ (S := (fun k_ => P0_0_ k_ ∨ P0_1_ k_)) (ts HK.out) hkp (fun k_ hs_ => (fun e_ => (HO0_0.out.1 k_ e_.symm)) hs_)); replace HB := Aside0.mk (hb); clear HO0_0; (try clear hb); (try clear hkp); (try clear ho0); (try clear ho1); obtain ⟨Ao89, co89, eo89⟩ := Kd.R_slice HO483.out; subst eo89; obtain ⟨hcz90_0, hcz90_1⟩ := bc2 (w := w88) BK454.out; have hfz90 := blk_frozen BK454.out; obtain ⟨Ao91, co91, eo91⟩ := Kd.R_slice HO486.out; subst eo91))
      refine bodyPost_ret (results_ct rfl _ _ gb454 34 #[.slice Ao89 t481.length co89, .slice Ao91 t484.length co91] (0, 0) _ rfl (bp BK454.out rfl) Try.underlying34 rfl (by kernel_rfl)) rfl ?_
      exact ⟨_, _, eqr, Kd.R_mono (rt HO483.out BK454.out (by decide)) (fun _ hk => hk), Kd.R_mono (rt HO486.out BK454.out (by decide)) (fun _ hk => hk.1), bs HB.out, ts HK.out⟩
     ·rw [if_neg c71] at H
      have c71b0 : (a1_0 == 3) = false := beq_eq_false_iff_ne.mpr c71
      have c71b1 : (a1_0 != 3) = true := bne_iff_ne.mpr c71
      replace H := Option.bind_eq_some_iff.mp H
      obtain ⟨⟨t487, t490⟩, A920, H⟩ := H
      try dsimp -simprocs only at H
      have A92 := Aside0.mk A920
      clear A920
      simp only [Option.some.injEq, Prod.mk.injEq] at H
      obtain ⟨rfl, rfl, rfl⟩ := H
      obtain ⟨Ao93, co93, eo93⟩ := Kd.R_slice HO0_0.out
      subst eo93
      obtain ⟨Ao94, co94, eo94⟩ := Kd.R_slice HO0_1.out
      subst eo94
      go_enter Try.func96, Try.ntmps96
      go_wp2_with (first | ((with_reducible refine gd 2 rfl ?_); refine bx 2 (cs := #[.slice Ao93 l0_0.length co93, .slice Ao94 l0_1.length co94]) (t := 34) ?_; intro gb452 hg w95 hbox hb; replace HO0_0 := rb HO0_0 hb; replace HO0_1 := rb HO0_1 hb; have BK452 := Aside0.mk (hbox); have GW452 := Ge.mk ((by rw [hg]; exact (by first | exact HK.out.1 | exact (show Kept w _ (fun k_ => P0_0_ k_ ∨ P0_1_ k_) from ts HK.out).1) : w.heap.size ≤ gb452)); replace HK := kl HK hb; have GE452 := gwb HB hg; replace HB := hs HB hb; clear hb hbox hg) | ((with_reducible refine gd 3 rfl ?_); refine bx 3 (cs := #[.int .i64 a1_0, .int .i64 a1_1, .int .i64 a1_2, .int .i64 a1_3, .int .i64 a1_4, .int .i64 a1_5, .int .i64 a1_6, .int .i64 a1_7]) (t := 58) ?_; intro gb453 hg w96 hbox hb; replace HO0_0 := rb HO0_0 hb; replace HO0_1 := rb HO0_1 hb; have BK453 := Aside0.mk (hbox); have GW453 := Ge.mk ((by rw [hg]; exact (by first | exact HK.out.1 | exact (show Kept w _ (fun k_ => P0_0_ k_ ∨ P0_1_ k_) from ts HK.out).1) : w.heap.size ≤ gb453)); replace HK := kl HK hb; have GE453 := gwb HB hg; replace HB := hs HB hb; have NB452_453 := nq BK452 hg; have NB453_452 := nq' BK452 hg; replace BK452 := bb BK452 hb rfl; clear hb hbox hg) | ((with_reducible refine gd 4 rfl ?_); refine bx 4 (cs := #[.slice none 0 0, .slice none 0 0]) (t := 34) ?_; intro gb454 hg w97 hbox hb; replace HO0_0 := rb HO0_0 hb; replace HO0_1 := rb HO0_1 hb; have BK454 := Aside0.mk (hbox); have GW454 := Ge.mk ((by rw [hg]; exact (by first | exact HK.out.1 | exact (show Kept w _ (fun k_ => P0_0_ k_ ∨ P0_1_ k_) from ts HK.out).1) : w.heap.size ≤ gb454)); replace HK := kl HK hb; have GE454 := gwb HB hg; replace HB := hs HB hb; have NB452_454 := nq BK452 hg; have NB454_452 := nq' BK452 hg; replace BK452 := bb BK452 hb rfl; have NB453_454 := nq BK453 hg; have NB454_453 := nq' BK453 hg; replace BK453 := bb BK453 hb rfl; clear hb hbox hg; have hnb98 := NB453_452.out; have hnc98 := NB452_453.out; have hnb99 := NB453_454.out; have hnc99 := NB454_453.out; obtain ⟨hcz100_0, hcz100_1, hcz100_2, hcz100_3, hcz100_4, hcz100_5, hcz100_6, hcz100_7⟩ := bc8 (w := w97) BK453.out; have hfz100 := blk_frozen BK453.out) | ((with_reducible refine gc 44 rfl ?_); refine gl 8 Try.func44 #[.agg #[.int .i64 a1_0, .int .i64 a1_1, .int .i64 a1_2, .int .i64 a1_3, .int .i64 a1_4, .int .i64 a1_5, .int .i64 a1_6, .int .i64 a1_7]] ?_; (with_reducible refine (spec_OpLabel.calls k a1_0 a1_1 a1_2 a1_3 a1_4 a1_5 a1_6 a1_7 t455 _ A3.out).mono ?_); rintro e w101 ⟨rfl, hb⟩; refine ⟨_, rfl, ?_⟩; replace HO0_0 := rb HO0_0 hb; replace HO0_1 := rb HO0_1 hb; replace BK452 := bb BK452 hb rfl; replace BK453 := bb BK453 hb rfl; replace BK454 := bb BK454 hb rfl; replace HK := kl HK hb; replace HB := hs HB hb; (try clear hb); have hnb102 := NB452_454.out; have hnc102 := NB454_452.out; obtain ⟨hcz103_0, hcz103_1⟩ := bc2 (w := w101) BK452.out; have hfz103 := blk_frozen BK452.out; obtain ⟨hcz104_0, hcz104_1, hcz104_2, hcz104_3, hcz104_4, hcz104_5, hcz104_6, hcz104_7⟩ := bc8 (w := w101) BK453.out; have hfz104 := blk_frozen BK453.out) | ((with_reducible refine gc 123 rfl ?_); refine gl 13 Try.func123 #[.agg #[.slice Ao93 l0_0.length co93, .slice Ao94 l0_1.length co94], .agg #[.int .i64 a1_0, .int .i64 a1_1, .int .i64 a1_2, .int .i64 a1_3, .int .i64 a1_4, .int .i64 a1_5, .int .i64 a1_6, .int .i64 a1_7]] ?_; (with_reducible refine (spec_l2Ends.calls k _ _ l0_0 _ _ l0_1 a1_0 a1_1 a1_2 a1_3 a1_4 a1_5 a1_6 a1_7 t456 _ ?side1 ?side2 ?side3 ?side4 A17.out).mono ?_); (case side1 => exact cr HO0_0); (case side2 => exact (Kd.R_reads' HO0_0.out).2.1); (case side3 => exact cr HO0_1); (case side4 => exact (Kd.R_reads' HO0_1.out).2.1); rintro e w105 ⟨rfl, hb⟩; refine ⟨_, rfl, ?_⟩; replace HO0_0 := rb HO0_0 hb; replace HO0_1 := rb HO0_1 hb; replace BK452 := bb BK452 hb rfl; replace BK453 := bb BK453 hb rfl; replace BK454 := bb BK454 hb rfl; replace HK := kl HK hb; replace HB := hs HB hb; (try clear hb); obtain ⟨hcz106_0, hcz106_1, hcz106_2, hcz106_3, hcz106_4, hcz106_5, hcz106_6, hcz106_7⟩ := bc8 (w := w105) BK453.out; have hfz106 := blk_frozen BK453.out; obtain ⟨hcz107_0, hcz107_1⟩ := bc2 (w := w105) BK452.out; have hfz107 := blk_frozen BK452.out) | ((with_reducible refine gc 126 rfl ?_); refine gl 46 Try.func126 #[.agg #[.slice Ao93 l0_0.length co93, .slice Ao94 l0_1.length co94], .agg #[.int .i64 a1_1, .int .i64 a1_2]] ?_; (with_reducible refine (spec_l2Off.calls k _ _ l0_0 _ _ l0_1 a1_1 a1_2 t487 t490 _ ?side1 ?side2 ?side3 ?side4 A92.out).mono ?_); (case side1 => exact cr HO0_0); (case side2 => exact (Kd.R_reads' HO0_0.out).2.1); (case side3 => exact cr HO0_1); (case side4 => exact (Kd.R_reads' HO0_1.out).2.1); rintro e w108 ⟨v488, v491, rfl, ho0, ho1, hb⟩; refine ⟨_, rfl, ?_⟩; have HO489 := Aside0.mk (Kd.R_lower (Kd.R_new' (Kd.R_newM (M := fun k_ => ((P0_0_ k_ ∨ P0_1_ k_) ∨ w.heap.size ≤ k_)) ho0 (by first | exact HK.out.1 | exact (show Kept w _ (fun k_ => P0_0_ k_ ∨ P0_1_ k_) from ts HK.out).1) (fun k_ h_ => .inr h_)) (Kd.R_lt (rl HO0_0.out))) (below_size (bs HB.out))); replace HO0_0 := Aside0.mk (Kd.R_elder' (rl HO0_0.out) (Kd.R_base ho0) hb); have HO492 := Aside0.mk (Kd.R_lower (Kd.R_new' (Kd.R_newM (M := fun k_ => ((P0_0_ k_ ∨ P0_1_ k_) ∨ w.heap.size ≤ k_)) ho1 (by first | exact HK.out.1 | exact (show Kept w _ (fun k_ => P0_0_ k_ ∨ P0_1_ k_) from ts HK.out).1) (fun k_ h_ => .inr h_)) (Kd.R_lt (rl HO0_1.out))) (below_size (bs HB.out))); replace HO0_1 := Aside0.mk (Kd.R_elder' (rl HO0_1.out) (Kd.R_base ho1) hb); replace BK452 := bb BK452 hb rfl; replace BK453 := bb BK453 hb rfl; replace BK454 := bb BK454 hb rfl; replace HK := kl HK hb; replace HB := hs HB hb; (try clear hb); (try clear hb2); (try clear hk); (try clear hi); (try clear ho0); (try clear ho1); obtain ⟨Ao109, co109, eo109⟩ := Kd.R_slice HO489.out; subst eo109; obtain ⟨hcz110_0, hcz110_1⟩ := bc2 (w := w108) BK454.out; have hfz110 := blk_frozen BK454.out; obtain ⟨Ao111, co111, eo111⟩ := Kd.R_slice HO492.out; subst eo111))
      refine bodyPost_ret (results_ct rfl _ _ gb454 34 #[.slice Ao109 t487.length co109, .slice Ao111 t490.length co111] (0, 0) _ rfl (bp BK454.out rfl) Try.underlying34 rfl (by kernel_rfl)) rfl ?_
      exact ⟨_, _, eqr, Kd.R_mono (rt HO489.out BK454.out (by decide)) (fun _ hk => hk.1.1), Kd.R_mono (rt HO492.out BK454.out (by decide)) (fun _ hk => hk.1.1), bs HB.out, ts HK.out⟩
  ·rw [if_neg c18] at H
   have c18b0 : (t456 == 0) = false := beq_eq_false_iff_ne.mpr c18
   have c18b1 : (t456 != 0) = true := bne_iff_ne.mpr c18
   simp only [Option.some.injEq, Prod.mk.injEq] at H
   obtain ⟨rfl, rfl, rfl⟩ := H
   obtain ⟨Ao112, co112, eo112⟩ := Kd.R_slice HO0_0.out
   subst eo112
   obtain ⟨Ao113, co113, eo113⟩ := Kd.R_slice HO0_1.out
   subst eo113
   go_enter Try.func96, Try.ntmps96
   go_wp2_with (first | ((with_reducible refine gd 2 rfl ?_); refine bx 2 (cs := #[.slice Ao112 l0_0.length co112, .slice Ao113 l0_1.length co113]) (t := 34) ?_; intro gb452 hg w114 hbox hb; replace HO0_0 := rb HO0_0 hb; replace HO0_1 := rb HO0_1 hb; have BK452 := Aside0.mk (hbox); have GW452 := Ge.mk ((by rw [hg]; exact (by first | exact HK.out.1 | exact (show Kept w _ (fun k_ => P0_0_ k_ ∨ P0_1_ k_) from ts HK.out).1) : w.heap.size ≤ gb452)); replace HK := kl HK hb; have GE452 := gwb HB hg; replace HB := hs HB hb; clear hb hbox hg) | ((with_reducible refine gd 3 rfl ?_); refine bx 3 (cs := #[.int .i64 a1_0, .int .i64 a1_1, .int .i64 a1_2, .int .i64 a1_3, .int .i64 a1_4, .int .i64 a1_5, .int .i64 a1_6, .int .i64 a1_7]) (t := 58) ?_; intro gb453 hg w115 hbox hb; replace HO0_0 := rb HO0_0 hb; replace HO0_1 := rb HO0_1 hb; have BK453 := Aside0.mk (hbox); have GW453 := Ge.mk ((by rw [hg]; exact (by first | exact HK.out.1 | exact (show Kept w _ (fun k_ => P0_0_ k_ ∨ P0_1_ k_) from ts HK.out).1) : w.heap.size ≤ gb453)); replace HK := kl HK hb; have GE453 := gwb HB hg; replace HB := hs HB hb; have NB452_453 := nq BK452 hg; have NB453_452 := nq' BK452 hg; replace BK452 := bb BK452 hb rfl; clear hb hbox hg) | ((with_reducible refine gd 4 rfl ?_); refine bx 4 (cs := #[.slice none 0 0, .slice none 0 0]) (t := 34) ?_; intro gb454 hg w116 hbox hb; replace HO0_0 := rb HO0_0 hb; replace HO0_1 := rb HO0_1 hb; have BK454 := Aside0.mk (hbox); have GW454 := Ge.mk ((by rw [hg]; exact (by first | exact HK.out.1 | exact (show Kept w _ (fun k_ => P0_0_ k_ ∨ P0_1_ k_) from ts HK.out).1) : w.heap.size ≤ gb454)); replace HK := kl HK hb; have GE454 := gwb HB hg; replace HB := hs HB hb; have NB452_454 := nq BK452 hg; have NB454_452 := nq' BK452 hg; replace BK452 := bb BK452 hb rfl; have NB453_454 := nq BK453 hg; have NB454_453 := nq' BK453 hg; replace BK453 := bb BK453 hb rfl; clear hb hbox hg; have hnb117 := NB453_452.out; have hnc117 := NB452_453.out; have hnb118 := NB453_454.out; have hnc118 := NB454_453.out; obtain ⟨hcz119_0, hcz119_1, hcz119_2, hcz119_3, hcz119_4, hcz119_5, hcz119_6, hcz119_7⟩ := bc8 (w := w116) BK453.out; have hfz119 := blk_frozen BK453.out) | ((with_reducible refine gc 44 rfl ?_); refine gl 8 Try.func44 #[.agg #[.int .i64 a1_0, .int .i64 a1_1, .int .i64 a1_2, .int .i64 a1_3, .int .i64 a1_4, .int .i64 a1_5, .int .i64 a1_6, .int .i64 a1_7]] ?_; (with_reducible refine (spec_OpLabel.calls k a1_0 a1_1 a1_2 a1_3 a1_4 a1_5 a1_6 a1_7 t455 _ A3.out).mono ?_); rintro e w120 ⟨rfl, hb⟩; refine ⟨_, rfl, ?_⟩; replace HO0_0 := rb HO0_0 hb; replace HO0_1 := rb HO0_1 hb; replace BK452 := bb BK452 hb rfl; replace BK453 := bb BK453 hb rfl; replace BK454 := bb BK454 hb rfl; replace HK := kl HK hb; replace HB := hs HB hb; (try clear hb); have hnb121 := NB452_454.out; have hnc121 := NB454_452.out; obtain ⟨hcz122_0, hcz122_1⟩ := bc2 (w := w120) BK452.out; have hfz122 := blk_frozen BK452.out; obtain ⟨hcz123_0, hcz123_1, hcz123_2, hcz123_3, hcz123_4, hcz123_5, hcz123_6, hcz123_7⟩ := bc8 (w := w120) BK453.out; have hfz123 := blk_frozen BK453.out) | ((with_reducible refine gc 123 rfl ?_); refine gl 13 Try.func123 #[.agg #[.slice Ao112 l0_0.length co112, .slice Ao113 l0_1.length co113], .agg #[.int .i64 a1_0, .int .i64 a1_1, .int .i64 a1_2, .int .i64 a1_3, .int .i64 a1_4, .int .i64 a1_5, .int .i64 a1_6, .int .i64 a1_7]] ?_; (with_reducible refine (spec_l2Ends.calls k _ _ l0_0 _ _ l0_1 a1_0 a1_1 a1_2 a1_3 a1_4 a1_5 a1_6 a1_7 t456 _ ?side1 ?side2 ?side3 ?side4 A17.out).mono ?_); (case side1 => exact cr HO0_0); (case side2 => exact (Kd.R_reads' HO0_0.out).2.1); (case side3 => exact cr HO0_1); (case side4 => exact (Kd.R_reads' HO0_1.out).2.1); rintro e w124 ⟨rfl, hb⟩; refine ⟨_, rfl, ?_⟩; replace HO0_0 := rb HO0_0 hb; replace HO0_1 := rb HO0_1 hb; replace BK452 := bb BK452 hb rfl; replace BK453 := bb BK453 hb rfl; replace BK454 := bb BK454 hb rfl; replace HK := kl HK hb; replace HB := hs HB hb; (try clear hb); obtain ⟨hcz125_0, hcz125_1⟩ := bc2 (w := w124) BK452.out; have hfz125 := blk_frozen BK452.out; obtain ⟨hcz126_0, hcz126_1⟩ := bc2 (w := w124) BK454.out; have hfz126 := blk_frozen BK454.out))
   refine bodyPost_ret (results_ct rfl _ _ gb454 34 #[.slice Ao112 l0_0.length co112, .slice Ao113 l0_1.length co113] (0, 0) _ rfl (bp BK454.out rfl) Try.underlying34 rfl (by kernel_rfl)) rfl ?_
   exact ⟨_, _, eqr, Kd.R_mono (rt HO0_0.out BK454.out (by decide)) (fun _ hk => hk), Kd.R_mono (rt HO0_1.out BK454.out (by decide)) (fun _ hk => hk), bs HB.out, ts HK.out⟩

/-! ### spec_l2Graph: function 87 -/
def spec_l2Graph.l0 : Nat → Int → List Int → Int → List (S36) → List (S56) → Option ((List (S36)) × (List (S56)) × Int)
 | 0, _, _, _, _, _ => none
 | k + 1, x4, x1000, x1001, x495000, x495001 => if x4 > 0 then ((spec_l2Op.f k x1000 x1001 x495000 x495001).bind fun bt500 => ((spec_l2Do.f k x495000 x495001 bt500.1 bt500.2.1 bt500.2.2.1 bt500.2.2.2.1 bt500.2.2.2.2.1 bt500.2.2.2.2.2.1 bt500.2.2.2.2.2.2.1 bt500.2.2.2.2.2.2.2.1).bind fun bt509 => (spec_l2Graph.l0 k (wrap64 (x4 - 1)) x1000 bt500.2.2.2.2.2.2.2.2 bt509.1 bt509.2.1))) else ((spec_l2Copy.f x495000 x495001).bind fun bt516 => (some (bt516.1, bt516.2, x1001)))
def spec_l2Graph.f (k : Nat) (s0_0 : List Int) (s0_1 : Int) : Option ((List (S36)) × (List (S56)) × Int) := (spec_l9Rd_num.f k s0_0 s0_1 (([12, 24, 36, 48, 60, 5, 0] : List Int))).bind fun bt498 => (spec_l2Graph.l0 k bt498.1 s0_0 bt498.2 ([] : List (S36)) ([] : List (S56)))
def spec_l2Graph.T5 : Bool × List (List Nat × List Nat) := (true, [([], []), ([], []), ([], []), ([1, 2], [1, 2]), ([0, 3, 3], [0, 3]), ([4], [4]), ([5], [5]), ([5], [5]), ([6, 4, 0, 1, 2, 3, 4, 5, 6], [6])])
def spec_l2Graph.B5 : List Nat := [0, 0, 0, 6, 15, 31, 63, 63, 127]
theorem spec_l2Graph.tab5 : rtab .any (opsOf Try.f87 5) = spec_l2Graph.T5 := by kernel_rfl
theorem spec_l2Graph.bits5 : waitsOk spec_l2Graph.T5.2 spec_l2Graph.B5 = true := by kernel_rfl
theorem spec_l2Graph.calls (k : Nat) (g : Nat) (s0_0 : List Int) (s0_1 : Int) (r1 : List (S36)) (r2 : List (S56)) (r3 : Int) (w0 w : World) (hI : IsS126 w0 w g s0_0 s0_1) (hB : Below w0.heap.size w0 w) (h : spec_l2Graph.f k s0_0 s0_1 = some (r1, r2, r3)) :
  Calls Try.prog 87 #[.pointer (some ⟨g, 0, none⟩)] w fun e w' => ∃ v0_ v1_ : Value, e = .returned (.agg #[v0_, v1_]) ∧ Kd.R k36 36 w' w.heap.size (fun _ => True) v0_ r1 ∧ Kd.R k56 56 w' w.heap.size (fun _ => True) v1_ r2 ∧ IsS126 w0 w' g s0_0 r3 ∧ Below w0.heap.size w0 w' ∧ KeepBut w w' g none := by
 have hu34 := Try.underlying34
 have HI0 := Aside0.mk hI
 have GEg_ : Ge w0 g := ⟨IsS126.ge HI0.out⟩
 have HK := Aside0.mk (KeepBut.refl w g none)
 have HL := Aside0.mk hB.size
 clear hI
 have HW0 := Aside0.mk hB.size
 have HB := Aside0.mk hB
 clear hB
 have H := h; unfold spec_l2Graph.f at H
 clear h
 obtain ⟨y495, hy495⟩ : ∃ y_ : List Int, y_ = (([12, 24, 36, 48, 60, 5, 0] : List Int)) := ⟨_, rfl⟩
 replace H : ((spec_l9Rd_num.f k s0_0 s0_1 y495).bind fun bt498 => (spec_l2Graph.l0 k bt498.1 s0_0 bt498.2 ([] : List (S36)) ([] : List (S56)))) = some (r1, r2, r3) := by first | (rw [hy495]; exact H) | exact H
 have Ny495 := Aside0.mk hy495
 clear hy495
 replace H := Option.bind_eq_some_iff.mp H
 obtain ⟨⟨t498, t499⟩, A20, H⟩ := H
 try dsimp -simprocs only at H
 have A2 := Aside0.mk A20
 clear A20
 have H' := Aside0.mk H
 clear H
 go_enter Try.func87, Try.ntmps87
 go_wp2_with (first | ((with_reducible refine gd 2 rfl ?_); refine bx 2 (cs := #[.slice none 0 0, .slice none 0 0]) (t := 34) ?_; intro gb493 hg w3 hbox hb; replace HB := hs HB hb; have BK493 := Aside0.mk (hbox); have GW493 := gwk HK hg; have GE493 := gew HW0 GW493; replace HK := kb HK hb; have NB0_493 := nlt HI0 hg; have NB493_0 := nsy NB0_493; replace HI0 := ib HI0 hb; clear hb hbox hg) | ((with_reducible refine gd 3 rfl ?_); refine bx 3 (cs := #[.slice none 0 0, .slice none 0 0]) (t := 34) ?_; intro gb494 hg w4 hbox hb; replace HB := hs HB hb; have BK494 := Aside0.mk (hbox); have GW494 := gwk HK hg; have GE494 := gew HW0 GW494; replace HK := kb HK hb; have NB493_494 := nq BK493 hg; have NB494_493 := nq' BK493 hg; replace BK493 := bb BK493 hb rfl; have NB0_494 := nlt HI0 hg; have NB494_0 := nsy NB0_494; replace HI0 := ib HI0 hb; clear hb hbox hg; have hnb5 := NB494_493.out; have hnc5 := NB493_494.out; have hnb6 := NB494_0.out; have hnc6 := NB0_494.out; obtain ⟨hcz7_0, hcz7_1⟩ := bc2 (w := w4) BK494.out; have hfz7 := blk_frozen BK494.out) | ((with_reducible refine gd 7 rfl ?_); refine rli (k := .i64) 3 7 ([12, 24, 36, 48, 60, 5, 0] : List Int) ?_; intro v496 w8 ho9 hb hg_ hnew_; clear hg_ hnew_; (first | rw [← Ny495.out] at ho9 | (simp only [Int.reduceToNat] at ho9; rw [← Ny495.out] at ho9)); have HO497 := Aside0.mk (Kd.R_lower ho9 (keep_size (w := w) (g := g) (row := none) (ks HK.out))); replace HI0 := Aside0.mk (IsS126.below (show IsS126 w0 ((w4.setCell ⟨gb494, 0, none⟩ (.slice none 0 0)).setCell ⟨gb494, 1, none⟩ (.slice none 0 0)) g s0_0 s0_1 from iis HI0.out) hb); replace BK493 := Aside0.mk (blk_below (g := gb493) (o := .cells #[.slice none 0 0, .slice none 0 0] 34 (0, 0)) (bf BK493.out) hb); replace BK494 := bq #[.slice none 0 0, .slice none 0 0] BK494 hb; replace HK := kb HK hb; replace HB := hs HB hb; clear hb ho9; obtain ⟨Ao10, co10, eo10⟩ := Kd.R_slice HO497.out; subst eo10) | ((with_reducible refine gc 119 rfl ?_); refine gl 8 Try.func119 #[.pointer (some ⟨g, 0, none⟩), .slice Ao10 y495.length co10] ?_; (with_reducible refine (spec_l9Rd_num.calls k g s0_0 s0_1 _ _ y495 t498 t499 w0 _ ?side1 ?side2 ?side3 ?side4 ?side5 A2.out).mono ?_); (case side1 => exact iis HI0.out); (case side2 => exact bs HB.out); (case side3 => exact cr HO497); (case side4 => exact (Kd.R_reads' HO497.out).2.1); (case side5 => exact far_slice (IsS126.own_ne HI0.out HO497.out (by decide))); rintro e w11 ⟨rfl, hi, hb, hk⟩; refine ⟨_, rfl, ?_⟩; replace BK493 := kk BK493 hk; replace BK494 := kk BK494 hk; replace HO497 := ro HO497 HI0 hk; replace HK := kt HK hk; replace HB := Aside0.mk (hb); replace HI0 := Aside0.mk (hi); (try clear hi hb hk)))
 go_loopg [4] k (fun kq v4 w' => ∃ (x4_1 : Int) (x1001_1 : Int) (x495000_1 : List (S36)) (x495001_1 : List (S56)) (u495000 : Value) (u495001 : Value), v4 = .int .i64 x4_1 ∧ Aside0 (spec_l2Graph.l0 kq x4_1 s0_0 x1001_1 x495000_1 x495001_1 = some (r1, r2, r3)) ∧ Aside0 (kq ≤ k) ∧ Aside0 (Kd.R k36 36 w' w.heap.size (fun _ => True) u495000 x495000_1) ∧ Aside0 (Kd.R k56 56 w' w.heap.size (fun _ => True) u495001 x495001_1) ∧ Aside0 (w'.heap[gb493]? = some (.cells #[(.slice none 0 0), (.slice none 0 0)] 34 (0, 0))) ∧ Aside0 (w'.heap[gb494]? = some (.cells #[u495000, u495001] 34 (0, 0))) ∧ Aside0 (IsS126 w0 w' g s0_0 x1001_1) ∧ Aside0 (KeepBut w w' g none) ∧ Aside0 (Below w0.heap.size w0 w'))
 case atStart => exact ⟨(t498), (t499), (([] : List (S36))), (([] : List (S56))), (.slice none 0 0), (.slice none 0 0), eqs, H', ⟨Nat.le_refl _⟩, ⟨by first | exact Kd.R_nil _ _ _ _ _ | exact Kd.N_nil _ _ _ _ _ | exact Kd.V_nil _ _ _ _ _ | exact Kd.Q_nil _ _ _ _ _ | exact Kd.S_nil _ _ _ _ _⟩, ⟨by first | exact Kd.R_nil _ _ _ _ _ | exact Kd.N_nil _ _ _ _ _ | exact Kd.V_nil _ _ _ _ _ | exact Kd.Q_nil _ _ _ _ _ | exact Kd.S_nil _ _ _ _ _⟩, ⟨bf BK493.out⟩, ⟨bf BK494.out⟩, ⟨iis HI0.out⟩, ⟨ks HK.out⟩, ⟨bs HB.out⟩⟩
 case round =>
  clear H'
  try clear c1
  try clear p2
  try clear c5
  try clear c6
  try clear c8
  try clear c11
  try clear hcz7_0 hcz7_1
  try clear hfz7
  obtain ⟨x4_1, x1001_1, x495000_1, x495001_1, u495000, u495001, rfl, HA, HK1, HO_495000, HO_495001, BK493, BK494, HI0, HK, HB⟩ := hrel
  cases gk with
  | zero => exact absurd HA.out (by simp [spec_l2Graph.l0])
  | succ k1 =>
   have H := HA.out
   clear HA
   simp only [spec_l2Graph.l0] at H
   by_cases c12 : x4_1 > 0
   ·rw [if_pos c12] at H
    have c12b0 : decide (0 < x4_1) = true := decide_eq_true c12
    clear c12
    replace H := Option.bind_eq_some_iff.mp H
    obtain ⟨⟨t500, t501, t502, t503, t504, t505, t506, t507, t508⟩, A130, H⟩ := H
    try dsimp -simprocs only at H
    have A13 := Aside0.mk A130
    clear A130
    replace H := Option.bind_eq_some_iff.mp H
    obtain ⟨⟨t509, t512, t515⟩, A140, H⟩ := H
    try dsimp -simprocs only at H
    have A14 := Aside0.mk A140
    clear A140
    have H' := Aside0.mk H
    clear H
    try go_wp2
    replace HO_495000 := rd_ HO_495000
    replace HO_495001 := rd_ HO_495001
    replace BK493 := bd BK493
    replace BK494 := bd BK494
    replace HI0 := Aside0.mk (IsS126.drew HI0.out)
    replace HK := Aside0.mk (keep_drew HK.out)
    replace HB := hd HB
    obtain ⟨Ao16, co16, eo16⟩ := Kd.R_slice HO_495000.out
    (first | subst eo16 | (injection eo16 with f1_ f2_ f3_; have f4_ := f1_.symm; have f5_ := f3_.symm; clear f1_ f2_ f3_; subst f4_; subst f5_))
    obtain ⟨Ao17, co17, eo17⟩ := Kd.R_slice HO_495001.out
    (first | subst eo17 | (injection eo17 with f1_ f2_ f3_; have f4_ := f1_.symm; have f5_ := f3_.symm; clear f1_ f2_ f3_; subst f4_; subst f5_))
    refine start_ (n := 9) (S := fun w' => w'.cell? ⟨gb494, 0, none⟩ = some (.slice Ao16 x495000_1.length co16) ∧ w'.cell? ⟨gb494, 1, none⟩ = some (.slice Ao17 x495001_1.length co17)) (ds := [8]) #[false, false, false, false, false, false, false, false, false] (by kernel_rfl) rfl rfl ⟨(blk_cell BK494.out 0).trans rfl, (blk_cell BK494.out 1).trans rfl⟩ (fun hHeld => ?_); refine with_tabW spec_l2Graph.tab5 spec_l2Graph.bits5 (fun HT_ HW_ => ?_)
    generalize wr.drew = w15 at HO_495000 HO_495001 BK493 BK494 HI0 HK HB hHeld ⊢
    refine pu 1 15 ?_
    refine tk 0 14 ?_
    refine tk 2 16 ?_
    refine one_ (i := 3) (N := some 17) #[true, true, true, true, false, false, false, false, false] rfl rfl (one_of HT_.out (by kernel_rfl)) (by decide) (fun K hK => ?_)
    refine gs Try.func89 #[.pointer (some ⟨g, 0, none⟩), .agg #[.slice Ao16 x495000_1.length co16, .slice Ao17 x495001_1.length co17]] ?_
    with_reducible refine (spec_l2Op.calls k1 g s0_0 x1001_1 _ _ x495000_1 _ _ x495001_1 t500 t501 t502 t503 t504 t505 t506 t507 t508 w0 _ ?side1 ?side2 ?side3 ?side4 ?side5 ?side6 A13.out).mono ?_
    (case side1 => exact iis HI0.out)
    (case side2 => exact bs HB.out)
    (case side3 => exact Kd.C_foot_own (IsS126.apart (show IsS126 w0 _ g s0_0 x1001_1 from iis HI0.out) (rl HO_495000.out) (by decide)) (fun _ h_ => h_.2))
    (case side4 => exact (Kd.R_reads' HO_495000.out).2.1)
    (case side5 => exact Kd.C_foot_own (IsS126.apart (show IsS126 w0 _ g s0_0 x1001_1 from iis HI0.out) (rl HO_495001.out) (by decide)) (fun _ h_ => h_.2))
    (case side6 => exact (Kd.R_reads' HO_495001.out).2.1)
    rintro e w18 ⟨rfl, hi, hb, hk⟩
    refine ⟨_, rfl, ?_⟩
    replace HO_495000 := ro HO_495000 HI0 hk
    replace HO_495001 := ro HO_495001 HI0 hk
    replace BK493 := kk BK493 hk
    replace BK494 := kk BK494 hk
    replace HK := kt HK hk
    replace HB := Aside0.mk (hb)
    replace HI0 := Aside0.mk (hi)
    (try clear hb)
    (try clear hb2)
    (try clear hk)
    (try clear hi)
    refine hK.out _ _ ⟨(blk_cell BK494.out 0).trans rfl, (blk_cell BK494.out 1).trans rfl⟩ (fun hHeld => ?_)
    clear hK K
    refine nrm 17 ?_
    refine one_ (i := 4) (N := some 18) #[true, true, true, true, true, false, false, false, false] rfl rfl (one_of HT_.out (by kernel_rfl)) (by decide) (fun K hK => ?_)
    refine gs Try.func96 #[.agg #[.slice Ao16 x495000_1.length co16, .slice Ao17 x495001_1.length co17], .agg #[.int .i64 t500, .int .i64 t501, .int .i64 t502, .int .i64 t503, .int .i64 t504, .int .i64 t505, .int .i64 t506, .int .i64 t507]] ?_
    with_reducible refine (spec_l2Do.calls k1 (fun k_ => some k_ = (.slice Ao16 x495000_1.length co16 : Value).ownBlock) (.slice Ao16 x495000_1.length co16) x495000_1 (fun k_ => some k_ = (.slice Ao17 x495001_1.length co17 : Value).ownBlock) (.slice Ao17 x495001_1.length co17) x495001_1 t500 t501 t502 t503 t504 t505 t506 t507 t509 t512 t515 w0 _ ?side1 ?side2 ?side3 A14.out).mono ?_
    (case side1 => exact bs HB.out)
    (case side2 => exact Kd.R_lower (Kd.R_tight rfl HO_495000.out) HL.out)
    (case side3 => exact Kd.R_lower (Kd.R_tight rfl HO_495001.out) HL.out)
    rintro e w19 ⟨v510, v513, rfl, ho0, ho1, hb, hkp⟩
    refine ⟨_, rfl, ?_⟩
    replace BK493 := Aside0.mk (blk_kept (bf BK493.out) hkp (fun hs_ => Or.elim hs_ (fun e_ => (fun e_ => (Kd.R_ne HO_495000.out BK493.out (by decide)) e_) e_) (fun e_ => (fun e_ => (Kd.R_ne HO_495001.out BK493.out (by decide)) e_) e_)))
    replace BK494 := Aside0.mk (blk_kept (bf BK494.out) hkp (fun hs_ => Or.elim hs_ (fun e_ => (fun e_ => (Kd.R_ne HO_495000.out BK494.out (by decide)) e_) e_) (fun e_ => (fun e_ => (Kd.R_ne HO_495001.out BK494.out (by decide)) e_) e_)))
    replace HI0 := Aside0.mk (IsS126.kept (iis HI0.out) hkp (fun hs_ => Or.elim hs_ (fun e_ => (fun e_ => (IsS126.own_ne HI0.out HO_495000.out (by decide)) e_) e_) (fun e_ => (fun e_ => (IsS126.own_ne HI0.out HO_495001.out (by decide)) e_) e_)))
    have HO511 := Aside0.mk (Kd.R_mono (ok' := fun k_ => True) (Kd.R_raise (d := k36) (b := w0.heap.size) (b' := w.heap.size) (fun _ _ _ _ h_ => h_) ho0 (fun k_ e_ => Or.elim (ho0.1 k_ e_) (fun hs_ => Or.elim hs_ (fun e_ => (fun e_ => Kd.R_base HO_495000.out k_ e_.symm) e_) (fun e_ => (fun e_ => Kd.R_base HO_495001.out k_ e_.symm) e_)) (fun hn_ => Nat.le_trans (keep_size (w := w) (g := g) (row := none) (ks HK.out)) hn_))) (fun k_ hk_ => trivial))
    have HO514 := Aside0.mk (Kd.R_mono (ok' := fun k_ => True) (Kd.R_raise (d := k56) (b := w0.heap.size) (b' := w.heap.size) (fun _ _ _ _ h_ => h_) ho1 (fun k_ e_ => Or.elim (ho1.1 k_ e_) (fun hs_ => Or.elim hs_ (fun e_ => (fun e_ => Kd.R_base HO_495000.out k_ e_.symm) e_) (fun e_ => (fun e_ => Kd.R_base HO_495001.out k_ e_.symm) e_)) (fun hn_ => Nat.le_trans (keep_size (w := w) (g := g) (row := none) (ks HK.out)) hn_))) (fun k_ hk_ => trivial))
    replace HK := Aside0.mk (Kept.keepG (ks HK.out) hkp (fun k_ hs_ => Or.elim hs_ (fun e_ => (fun e_ => .inr (Kd.R_base HO_495000.out k_ e_.symm)) e_) (fun e_ => (fun e_ => .inr (Kd.R_base HO_495001.out k_ e_.symm)) e_)))
    replace HB := Aside0.mk (hb)
    clear HO_495000 HO_495001
    (try clear hb)
    (try clear hkp)
    (try clear ho0)
    (try clear ho1)
    obtain ⟨Ao20, co20, eo20⟩ := Kd.R_slice HO511.out
    (first | subst eo20 | (injection eo20 with f1_ f2_ f3_; have f4_ := f1_.symm; have f5_ := f3_.symm; clear f1_ f2_ f3_; subst f4_; subst f5_))
    obtain ⟨Ao22, co22, eo22⟩ := Kd.R_slice HO514.out
    (first | subst eo22 | (injection eo22 with f1_ f2_ f3_; have f4_ := f1_.symm; have f5_ := f3_.symm; clear f1_ f2_ f3_; subst f4_; subst f5_))
    refine hK.out _ _ ⟨(blk_cell BK494.out 0).trans rfl, (blk_cell BK494.out 1).trans rfl⟩ (fun hHeld => ?_)
    clear hK K
    refine nrm 18 ?_
    refine pu 5 13 ?_
    refine pu 6 19 ?_
    refine pu 7 20 ?_
    refine last_ (i := 8) (N := none) #[true, true, true, true, true, true, true, true, true] rfl rfl (one_of HT_.out (by kernel_rfl)) (by decide) (fun K hK => ?_)
    have hs21 : w19.cell? ⟨gb494, 0, none⟩ = some (.slice Ao16 x495000_1.length co16) := (blk_cell BK494.out 0).trans rfl
    have hfs21 := blk_frozen BK494.out 0
    have hns21_0 := NB493_494.out
    have hms21_0 := NB494_493.out
    have hs23 : w19.cell? ⟨gb494, 1, none⟩ = some (.slice Ao17 x495001_1.length co17) := (blk_cell BK494.out 1).trans rfl
    have hfs23 := blk_frozen BK494.out 1
    have hns23_0 := NB493_494.out
    have hms23_0 := NB494_493.out
    refine skip_ (w1 := ?_) (by rfl) rfl ?_ ?_
    rotate_left
    ·go_simp
     rfl
    refine hK.out _ _ ?_
    clear hK K
    refine done_ (done_of HT_.out (by kernel_rfl)) ?_
    try go_wp2
    go_roundg k1
    case measure => have := HK1.out; omega
    case rel => exact ⟨(wrap64 (x4_1 - 1)), (t508), (t509), (t512), (.slice Ao20 t509.length co20), (.slice Ao22 t512.length co22), eqs, H', ⟨by have := HK1.out; omega⟩, ⟨Kd.R_mono (rt HO511.out BK494.out (by decide)) (fun _ hk => trivial)⟩, ⟨Kd.R_mono (rt HO514.out BK494.out (by decide)) (fun _ hk => trivial)⟩, ⟨bf BK493.out⟩, ⟨by (with_reducible repeat (first | refine blk_drewN ?_ _ | refine blk_drew ?_ | refine blk_alloc ?_ _)); refine blk_put (cs := #[.slice Ao20 t509.length co20, .slice Ao17 x495001_1.length co17]) ?_ 1 _ rfl; (with_reducible repeat (first | refine blk_drewN ?_ _ | refine blk_drew ?_ | refine blk_alloc ?_ _)); refine blk_put (cs := #[.slice Ao16 x495000_1.length co16, .slice Ao17 x495001_1.length co17]) ?_ 0 _ rfl; exact bf BK494.out⟩, ⟨iis HI0.out⟩, ⟨ks HK.out⟩, ⟨bs HB.out⟩⟩
   ·rw [if_neg c12] at H
    have c12b0 : decide (0 < x4_1) = false := decide_eq_false c12
    clear c12
    replace H := Option.bind_eq_some_iff.mp H
    obtain ⟨⟨t516, t519⟩, A240, H⟩ := H
    try dsimp -simprocs only at H
    have A24 := Aside0.mk A240
    clear A240
    simp only [Option.some.injEq, Prod.mk.injEq] at H
    obtain ⟨rfl, rfl, rfl⟩ := H
    have hnb25 := NB494_493.out
    have hnc25 := NB493_494.out
    have hnb26 := NB494_0.out
    have hnc26 := NB0_494.out
    obtain ⟨hcz27_0, hcz27_1⟩ := bc2 (w := wr) BK494.out
    have hfz27 := blk_frozen BK494.out
    obtain ⟨Ao28, co28, eo28⟩ := Kd.R_slice HO_495000.out
    subst eo28
    obtain ⟨Ao29, co29, eo29⟩ := Kd.R_slice HO_495001.out
    subst eo29
    go_wp2_with (first | ((with_reducible refine gc 97 rfl ?_); refine gl 22 Try.func97 #[.agg #[.slice Ao28 x495000_1.length co28, .slice Ao29 x495001_1.length co29]] ?_; (with_reducible refine (spec_l2Copy.calls _ _ x495000_1 _ _ x495001_1 t516 t519 _ ?side1 ?side2 ?side3 ?side4 A24.out).mono ?_); (case side1 => exact cr HO_495000); (case side2 => exact (Kd.R_reads' HO_495000.out).2.1); (case side3 => exact cr HO_495001); (case side4 => exact (Kd.R_reads' HO_495001.out).2.1); rintro e w30 ⟨v517, v520, rfl, ho0, ho1, hb⟩; refine ⟨_, rfl, ?_⟩; have HO518 := Aside0.mk (Kd.R_lower (Kd.R_new' ho0 (Kd.R_lt (rl HO_495000.out))) (keep_size (w := w) (g := g) (row := none) (ks HK.out))); replace HO_495000 := Aside0.mk (Kd.R_elder' (rl HO_495000.out) (Kd.R_base ho0) hb); have HO521 := Aside0.mk (Kd.R_lower (Kd.R_new' ho1 (Kd.R_lt (rl HO_495001.out))) (keep_size (w := w) (g := g) (row := none) (ks HK.out))); replace HO_495001 := Aside0.mk (Kd.R_elder' (rl HO_495001.out) (Kd.R_base ho1) hb); replace BK493 := bb BK493 hb rfl; replace BK494 := bb BK494 hb rfl; replace HI0 := ib HI0 hb; replace HK := kb HK hb; replace HB := hs HB hb; (try clear ho0 ho1 hb); obtain ⟨Ao31, co31, eo31⟩ := Kd.R_slice HO518.out; subst eo31; have hnb32 := NB493_0.out; have hnc32 := NB0_493.out; obtain ⟨hcz33_0, hcz33_1⟩ := bc2 (w := w30) BK493.out; have hfz33 := blk_frozen BK493.out; obtain ⟨Ao34, co34, eo34⟩ := Kd.R_slice HO521.out; subst eo34))
    refine bodyPost_ret (results_cell_row rfl _ _ gb493 34 #[.slice Ao31 t516.length co31, .slice Ao34 t519.length co34] (0, 0) _ rfl (bp BK493.out rfl) Try.underlying34 rfl (by kernel_rfl)) rfl ?_
    exact ⟨_, _, eqr, Kd.R_mono (rt HO518.out BK493.out (by decide)) (fun _ hk => trivial), Kd.R_mono (rt HO521.out BK493.out (by decide)) (fun _ hk => trivial), iis HI0.out, bs HB.out, ks HK.out⟩

end Go.Proofs.Ytohmemckdogljaa.QFnGraphView
