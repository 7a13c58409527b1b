/- Contracts of the Go functions that this law reaches: each does what its plain Lean function says. No condition. -/
import Derived.Test.YtohmemckdogljaaQFnGraphViewx0
import Derived.Test.YtohmemckdogljaaQFnGraphViewx1
namespace Go.Proofs.Ytohmemckdogljaa.QFnGraphView
open Go.RowKit Go.Proofs.YtohmemckdogljaaW.PrintWords Go.Proofs.YtohmemckdogljaaW.PrintLast Go.Proofs.YtohmemckdogljaaW.PrintMore Go.Proofs.Ytohmemckdogljaa.Bl
attribute [local go_sem] max2_int min2_int max_two min_two max_three min_three max_four min_four   -- for this text's walks alone
set_option linter.unusedVariables false
set_option linter.unusedSimpArgs false
set_option maxHeartbeats 8000000
set_option maxRecDepth 100000

attribute [local go_sem high] eqA36
/-! ### spec_l2Off: function 126 -/
mutual
def spec_l2Off.l0 : Nat → Int → List (S36) → List (S56) → Int → Int → List (S36) → List (S56) → Option ((List (S36)) × (List (S56)))
 | 0, _, _, _, _, _, _, _ => none
 | k + 1, x6, x432000, x432001, x433000, x433001, x441000, x441001 => if x6 < (x432000.length : Int) then (if 0 ≤ x6 then (if (!(((rd_T36 x432000 x6).f0) == x433000) || (!(((rd_T36 x432000 x6).f1) == x433001))) = true then (if x441000.length < 8796093022208 then (spec_l2Off.l0 k (wrap64 (x6 + 1)) x432000 x432001 x433000 x433001 (x441000 ++ [(⟨(rd_T36 x432000 x6).f0, (rd_T36 x432000 x6).f1⟩ : S36)]) x441001) else (none)) else (spec_l2Off.l0 k (wrap64 (x6 + 1)) x432000 x432001 x433000 x433001 x441000 x441001)) else (none)) else (spec_l2Off.l1 k 0 x432000 x432001 x433000 x433001 x441000 x441001)
def spec_l2Off.l1 : Nat → Int → List (S36) → List (S56) → Int → Int → List (S36) → List (S56) → Option ((List (S36)) × (List (S56)))
 | 0, _, _, _, _, _, _, _ => none
 | k + 1, x7, x432000, x432001, x433000, x433001, x441000, x441001 => if x7 < (x432001.length : Int) then (if 0 ≤ x7 then (if (!(((rd_T56 x432001 x7).f1.f0) == x433000) || (!(((rd_T56 x432001 x7).f1.f1) == x433001))) = true then (if (!(((rd_T56 x432001 x7).f2.f0) == x433000) || (!(((rd_T56 x432001 x7).f2.f1) == x433001))) = true then (if x441001.length < 3518437208883 then (spec_l2Off.l1 k (wrap64 (x7 + 1)) x432000 x432001 x433000 x433001 x441000 (x441001 ++ [(⟨(rd_T56 x432001 x7).f0, (⟨(rd_T56 x432001 x7).f1.f0, (rd_T56 x432001 x7).f1.f1⟩ : S36), (⟨(rd_T56 x432001 x7).f2.f0, (rd_T56 x432001 x7).f2.f1⟩ : S36)⟩ : S56)])) else (none)) else (spec_l2Off.l1 k (wrap64 (x7 + 1)) x432000 x432001 x433000 x433001 x441000 x441001)) else (spec_l2Off.l1 k (wrap64 (x7 + 1)) x432000 x432001 x433000 x433001 x441000 x441001)) else (none)) else (some (x441000, x441001))
end
def spec_l2Off.f (k : Nat) (l0_0 : List (S36)) (l0_1 : List (S56)) (a1_0 : Int) (a1_1 : Int) : Option ((List (S36)) × (List (S56))) := spec_l2Off.l0 k 0 l0_0 l0_1 a1_0 a1_1 (([] : List (S36))) (([] : List (S56)))
def spec_l2Off.T6 : Bool × List (List Nat × List Nat) := (true, [([], []), ([0], [0]), ([], []), ([2], [2]), ([], []), ([3, 4], [3, 4]), ([5], [5]), ([6], [6]), ([1, 7], [1, 7]), ([0, 1, 2, 3, 4, 5, 6, 7, 8], []), ([9, 8, 8, 0, 1, 2, 3, 4, 5, 6, 7, 8], [8, 9])])
def spec_l2Off.B6 : List Nat := [0, 1, 0, 4, 0, 28, 60, 124, 255, 511, 1023]
theorem spec_l2Off.tab6 : rtab .any (opsOf Try.f126 6) = spec_l2Off.T6 := by kernel_rfl
theorem spec_l2Off.bits6 : waitsOk spec_l2Off.T6.2 spec_l2Off.B6 = true := by kernel_rfl
def spec_l2Off.T10 : Bool × List (List Nat × List Nat) := (true, [([], []), ([0], [0]), ([], []), ([1, 2], [1, 2]), ([3], [3]), ([4], [4]), ([], []), ([5, 6], [5, 6]), ([7], [7]), ([8], [8]), ([9, 8], [8, 9]), ([8], [8]), ([10, 11, 8], [8, 10, 11]), ([12, 8], [8, 12]), ([13, 8], [8, 13]), ([8], [8]), ([14, 15, 8], [8, 14, 15]), ([8, 16], [8, 16])])
def spec_l2Off.B10 : List Nat := [0, 1, 0, 7, 15, 31, 0, 127, 255, 511, 1023, 511, 4095, 8191, 16383, 511, 65535, 131071]
theorem spec_l2Off.tab10 : rtab .any (opsOf Try.f126 10) = spec_l2Off.T10 := by kernel_rfl
theorem spec_l2Off.bits10 : waitsOk spec_l2Off.T10.2 spec_l2Off.B10 = true := by kernel_rfl
def spec_l2Off.T11 : Bool × List (List Nat × List Nat) := (true, [([], []), ([0], [0]), ([], []), ([2], [2]), ([], []), ([3, 4], [3, 4]), ([5], [5]), ([6], [6]), ([1, 7], [1, 7]), ([0, 1, 2, 3, 4, 5, 6, 7, 8], []), ([9, 8, 8, 0, 1, 2, 3, 4, 5, 6, 7, 8], [8, 9])])
def spec_l2Off.B11 : List Nat := [0, 1, 0, 4, 0, 28, 60, 124, 255, 511, 1023]
theorem spec_l2Off.tab11 : rtab .any (opsOf Try.f126 11) = spec_l2Off.T11 := by kernel_rfl
theorem spec_l2Off.bits11 : waitsOk spec_l2Off.T11.2 spec_l2Off.B11 = true := by kernel_rfl
theorem spec_l2Off.calls (k : Nat) (A0_0 : Option Addr) (c0_0 : Nat) (l0_0 : List (S36)) (A0_1 : Option Addr) (c0_1 : Nat) (l0_1 : List (S56)) (a1_0 : Int) (a1_1 : Int) (r1 : List (S36)) (r2 : List (S56)) (w : World) (hr0_0 : Kd.C k36 w A0_0 l0_0.length l0_0) (hc0_0 : l0_0.length ≤ c0_0) (hr0_1 : Kd.C k56 w A0_1 l0_1.length l0_1) (hc0_1 : l0_1.length ≤ c0_1) (h : spec_l2Off.f k l0_0 l0_1 a1_0 a1_1 = some (r1, r2)) :
  Calls Try.prog 126 #[.agg #[.slice A0_0 l0_0.length c0_0, .slice A0_1 l0_1.length c0_1], .agg #[.int .i64 a1_0, .int .i64 a1_1]] w fun e w' => ∃ v0_ v1_ : Value, e = .returned (.agg #[v0_, v1_]) ∧ Kd.R k36 36 w' w.heap.size (fun _ => True) v0_ r1 ∧ Kd.R k56 56 w' w.heap.size (fun _ => True) v1_ r2 ∧ Below w.heap.size w w' := by
 have hu34 := Try.underlying34
 have hu36 := Try.underlying36
 have hu56 := Try.underlying56
 have HR0_0 := Aside0.mk hr0_0
 have HC0_0 := Aside0.mk hc0_0
 clear hr0_0 hc0_0
 have HR0_1 := Aside0.mk hr0_1
 have HC0_1 := Aside0.mk hc0_1
 clear hr0_1 hc0_1
 have HB := Aside0.mk (Below.refl w.heap.size w)
 have H := h; unfold spec_l2Off.f at H
 clear h
 obtain ⟨y434, hy434⟩ : ∃ y_ : List (S36), y_ = (([] : List (S36))) := ⟨_, rfl⟩
 replace H : (spec_l2Off.l0 k 0 l0_0 l0_1 a1_0 a1_1 y434 (([] : List (S56)))) = some (r1, r2) := by first | (rw [hy434]; exact H) | exact H
 have Ny434 := Aside0.mk hy434
 clear hy434
 obtain ⟨y437, hy437⟩ : ∃ y_ : List (S56), y_ = (([] : List (S56))) := ⟨_, rfl⟩
 replace H : (spec_l2Off.l0 k 0 l0_0 l0_1 a1_0 a1_1 y434 y437) = some (r1, r2) := by first | (rw [hy437]; exact H) | exact H
 have Ny437 := Aside0.mk hy437
 clear hy437
 have H' := Aside0.mk H
 clear H
 go_enter Try.func126, Try.ntmps126
 go_wp2_with (first | ((with_reducible refine gd 2 rfl ?_); refine bx 2 (cs := #[.slice A0_0 l0_0.length c0_0, .slice A0_1 l0_1.length c0_1]) (t := 34) ?_; intro gb431 hg w3 hbox hb; have BK431 := Aside0.mk (hbox); have GW431 := gwb HB hg; replace HB := hs HB hb; clear hb hbox hg) | ((with_reducible refine gd 3 rfl ?_); refine bx 3 (cs := #[.int .i64 a1_0, .int .i64 a1_1]) (t := 36) ?_; intro gb432 hg w4 hbox hb; have BK432 := Aside0.mk (hbox); have GW432 := gwb HB hg; replace HB := hs HB hb; have NB431_432 := nq BK431 hg; have NB432_431 := nq' BK431 hg; replace BK431 := bb BK431 hb rfl; clear hb hbox hg) | ((with_reducible refine gd 4 rfl ?_); refine bx 4 (cs := #[.slice none 0 0, .slice none 0 0]) (t := 34) ?_; intro gb433 hg w5 hbox hb; have BK433 := Aside0.mk (hbox); have GW433 := gwb HB hg; replace HB := hs HB hb; have NB431_433 := nq BK431 hg; have NB433_431 := nq' BK431 hg; replace BK431 := bb BK431 hb rfl; have NB432_433 := nq BK432 hg; have NB433_432 := nq' BK432 hg; replace BK432 := bb BK432 hb rfl; clear hb hbox hg) | ((with_reducible refine gd 8 rfl ?_); refine Kd.R_lit k36 _ 36 ?hg (N := 8) ?hd (xs := ([] : List (S36))) (inner := []) (ok := fun _ => True) (okp := fun _ => True) ?hr ?hp (fun _ hk => hk) trivial (Below.refl _ _) (Nat.le_refl _) (by simp) ?_; (case hd => rfl); (case hg => rfl); (case hr => first | (go_simp; done) | (go_simp; rfl)); (case hp => exact (Reps.none _ _)); intro v435 w6 ho7 hb hg_ hnew_; clear hg_ hnew_; (first | rw [← Ny434.out] at ho7 | (simp only [Int.reduceToNat] at ho7; rw [← Ny434.out] at ho7)); have HO436 := Aside0.mk (Kd.R_lower (Kd.R_newB ho7 (g := gb432) (o := .cells #[.int .i64 a1_0, .int .i64 a1_1] 36 (0, 0)) (bf BK432.out)) (below_size (bs HB.out))); replace BK431 := bb BK431 hb rfl; replace BK432 := bb BK432 hb rfl; replace BK433 := bb BK433 hb rfl; replace HB := hs HB hb; clear hb ho7) | ((with_reducible refine gd 9 rfl ?_); refine Kd.R_lit k56 _ 56 ?hg (N := 9) ?hd (xs := ([] : List (S56))) (inner := []) (ok := fun _ => True) (okp := fun _ => True) ?hr ?hp (fun _ hk => hk) trivial (Below.refl _ _) (Nat.le_refl _) (by simp) ?_; (case hd => rfl); (case hg => rfl); (case hr => first | (go_simp; done) | (go_simp; rfl)); (case hp => exact (Reps.none _ _)); intro v438 w8 ho9 hb hg_ hnew_; clear hg_ hnew_; (first | rw [← Ny437.out] at ho9 | (simp only [Int.reduceToNat] at ho9; rw [← Ny437.out] at ho9)); replace HO436 := rb HO436 hb; have HO439 := Aside0.mk (Kd.R_lower ho9 (below_size (bs HB.out))); replace BK431 := bb BK431 hb rfl; replace BK432 := bb BK432 hb rfl; replace BK433 := bb BK433 hb rfl; replace HB := hs HB hb; clear hb ho9; obtain ⟨Ao10, co10, eo10⟩ := Kd.R_slice HO439.out; subst eo10; obtain ⟨Ao11, co11, eo11⟩ := Kd.R_slice HO436.out; subst eo11) | ((with_reducible refine gd 5 rfl ?_); refine bx 5 (cs := #[.slice none 0 0, .slice none 0 0]) (t := 34) ?_; intro gb440 hg w12 hbox hb; replace HO436 := rb HO436 hb; replace HO439 := rb HO439 hb; have BK440 := Aside0.mk (hbox); have GW440 := gwb HB hg; replace HB := hs HB hb; have NB431_440 := nq BK431 hg; have NB440_431 := nq' BK431 hg; replace BK431 := bb BK431 hb rfl; have NB432_440 := nq BK432 hg; have NB440_432 := nq' BK432 hg; replace BK432 := bb BK432 hb rfl; have NB433_440 := nq BK433 hg; have NB440_433 := nq' BK433 hg; replace BK433 := bb BK433 hb rfl; clear hb hbox hg; have hnb13 := NB440_431.out; have hnc13 := NB431_440.out; have hnb14 := NB440_432.out; have hnc14 := NB432_440.out; have hnb15 := NB440_433.out; have hnc15 := NB433_440.out; obtain ⟨hcz16_0, hcz16_1⟩ := bc2 (w := w12) BK440.out; have hfz16 := blk_frozen BK440.out))
 go_loopg [6] k (fun kq v6 w' => ∃ (x6_1 : Int) (x441000_1 : List (S36)) (u441000 : Value), v6 = .int .i64 x6_1 ∧ Aside0 (spec_l2Off.l0 kq x6_1 l0_0 l0_1 a1_0 a1_1 x441000_1 y437 = some (r1, r2)) ∧ Aside0 (kq ≤ k) ∧ Aside0 (Kd.R k36 36 w' w.heap.size (fun k_ => k_ ≠ gb432) u441000 x441000_1) ∧ Aside0 (Kd.R k56 56 w' w.heap.size (fun _ => True) (.slice Ao10 y437.length co10) y437) ∧ Aside0 (w'.heap[gb431]? = some (.cells #[(.slice A0_0 l0_0.length c0_0), (.slice A0_1 l0_1.length c0_1)] 34 (0, 0))) ∧ Aside0 (w'.heap[gb432]? = some (.cells #[.int .i64 a1_0, .int .i64 a1_1] 36 (0, 0))) ∧ Aside0 (w'.heap[gb433]? = some (.cells #[(.slice none 0 0), (.slice none 0 0)] 34 (0, 0))) ∧ Aside0 (w'.heap[gb440]? = some (.cells #[u441000, (.slice Ao10 y437.length co10)] 34 (0, 0))) ∧ Aside0 (Below w.heap.size w w'))
 case atStart => exact ⟨(0), (y434), (.slice Ao11 y434.length co11), eqs, H', ⟨Nat.le_refl _⟩, ⟨Kd.R_mono (rt HO436.out BK440.out (by decide)) (fun _ hk => hk.2)⟩, ⟨Kd.R_mono (rt HO439.out BK440.out (by decide)) (fun _ hk => trivial)⟩, ⟨bf BK431.out⟩, ⟨bf BK432.out⟩, ⟨bf BK433.out⟩, ⟨by (with_reducible repeat (first | refine blk_drewN ?_ _ | refine blk_drew ?_ | refine blk_alloc ?_ _)); refine blk_put (cs := #[.slice Ao11 y434.length co11, .slice none 0 0]) ?_ 1 _ rfl; (with_reducible repeat (first | refine blk_drewN ?_ _ | refine blk_drew ?_ | refine blk_alloc ?_ _)); refine blk_put (cs := #[.slice none 0 0, .slice none 0 0]) ?_ 0 _ rfl; exact bf BK440.out⟩, ⟨bs HB.out⟩⟩
 case round =>
  clear H'
  try clear c1
  try clear p2
  try clear c12
  try clear c13
  try clear c14
  try clear c15
  try clear hcz16_0 hcz16_1
  try clear hfz16
  obtain ⟨x6_1, x441000_1, u441000, rfl, HA, HK1, HO_441000, HO_441001, BK431, BK432, BK433, BK440, HB⟩ := hrel
  cases gk with
  | zero => exact absurd HA.out (by simp [spec_l2Off.l0])
  | succ k1 =>
   have H := HA.out
   clear HA
   simp only [spec_l2Off.l0] at H
   by_cases c17 : x6_1 < (l0_0.length : Int)
   ·rw [if_pos c17] at H
    have c17b0 : decide (x6_1 < (l0_0.length : Int)) = true := decide_eq_true c17
    clear c17
    by_cases c18 : 0 ≤ x6_1
    ·rw [if_pos c18] at H
     have c18b0 : decide (0 ≤ x6_1) = true := decide_eq_true c18
     clear c18
     by_cases c19 : (!(((rd_T36 l0_0 x6_1).f0) == a1_0) || (!(((rd_T36 l0_0 x6_1).f1) == a1_1))) = true
     ·rw [if_pos c19] at H
      have c19b0 : (!(((rd_T36 l0_0 x6_1).f0) == a1_0) || (!(((rd_T36 l0_0 x6_1).f1) == a1_1))) = true := c19
      clear c19
      by_cases c20 : x441000_1.length < 8796093022208
      ·rw [if_pos c20] at H
       have LMc20 := Aside0.mk c20
       clear c20
       obtain ⟨y443, hy443⟩ : ∃ y_ : List (S36), y_ = (x441000_1 ++ [(⟨(rd_T36 l0_0 x6_1).f0, (rd_T36 l0_0 x6_1).f1⟩ : S36)]) := ⟨_, rfl⟩
       replace H : (spec_l2Off.l0 k1 (wrap64 (x6_1 + 1)) l0_0 l0_1 a1_0 a1_1 y443 y437) = some (r1, r2) := by first | (rw [hy443]; exact H) | exact H
       have Ny443 := Aside0.mk hy443
       clear hy443
       have H' := Aside0.mk H
       clear H
       have hnb21 := NB431_432.out
       have hnc21 := NB432_431.out
       have hnb22 := NB431_433.out
       have hnc22 := NB433_431.out
       have hnb23 := NB431_440.out
       have hnc23 := NB440_431.out
       obtain ⟨hcz24_0, hcz24_1⟩ := bc2 (w := wr) BK431.out
       have hfz24 := blk_frozen BK431.out
       try go_wp2
       replace HO_441000 := rd_ HO_441000
       replace HO_441001 := rd_ HO_441001
       replace BK431 := bd BK431
       replace BK432 := bd BK432
       replace BK433 := bd BK433
       replace BK440 := bd BK440
       replace HB := hd HB
       have p441 : 0 ≤ (x6_1 : Int) := oda
       have q441 : x6_1 < (l0_0.length : Int) := oda
       obtain ⟨ad441, e441, hx441_0, hx441_1⟩ := at_T36 HR0_0.out x6_1 p441 q441
       have hw441_1 := hx441_1
       have hw441_0 := hx441_0
       cases e441
       replace hx441_0 := cb HB hx441_0
       replace hx441_1 := cb HB hx441_1
       replace p441 := eq_true p441
       replace q441 := eq_true q441
       refine start_ (n := 7) (S := fun w' => w'.cell? ⟨gb431, 0, none⟩ = some (.slice (some ad441) l0_0.length c0_0) ∧ w'.cell? ⟨gb431, 1, none⟩ = some (.slice A0_1 l0_1.length c0_1) ∧ w'.cell? ⟨gb432, 0, none⟩ = some (.int .i64 a1_0) ∧ w'.cell? ⟨gb432, 1, none⟩ = some (.int .i64 a1_1) ∧ w'.cell? (ad441.add ((x6_1).toNat * 2)) = some (.int .i64 ((rd_T36 l0_0 x6_1).f0)) ∧ w'.cell? ⟨(ad441.add ((x6_1).toNat * 2)).block, (ad441.add ((x6_1).toNat * 2)).off + 1, none⟩ = some (.int .i64 ((rd_T36 l0_0 x6_1).f1))) (ds := []) #[false, false, false, false, false, false, false] (by kernel_rfl) rfl rfl ⟨(blk_cell BK431.out 0).trans rfl, (blk_cell BK431.out 1).trans rfl, (blk_cell BK432.out 0).trans rfl, (blk_cell BK432.out 1).trans rfl, (cb HB hw441_0), (cb HB hw441_1)⟩ (fun hHeld => ?_)
       generalize wr.drew = w25 at HO_441000 HO_441001 BK431 BK432 BK433 BK440 HB hx441_0 hx441_1 hHeld ⊢
       refine pu 0 18 ?_
       refine pu 2 20 ?_
       refine tk 1 19 ?_
       refine pu 3 21 ?_
       refine tk 4 22 ?_
       refine tk 5 23 ?_
       refine pu 6 24 ?_
       refine done_ (by kernel_rfl) ?_
       try go_wp2
       replace HO_441000 := rd_ HO_441000
       replace HO_441001 := rd_ HO_441001
       replace BK431 := bd BK431
       replace BK432 := bd BK432
       replace BK433 := bd BK433
       replace BK440 := bd BK440
       replace HB := hd HB
       have p442 : 0 ≤ (x6_1 : Int) := oda
       have q442 : x6_1 < (l0_0.length : Int) := oda
       obtain ⟨ad442, e442, hx442_0, hx442_1⟩ := at_T36 HR0_0.out x6_1 p442 q442
       have hw442_1 := hx442_1
       have hw442_0 := hx442_0
       obtain rfl : ad441 = ad442 := (by injection e442)
       replace hx442_0 := cb HB hx442_0
       replace hx442_1 := cb HB hx442_1
       replace p442 := eq_true p442
       replace q442 := eq_true q442
       refine start_ (n := 11) (S := fun w' => w'.cell? ⟨gb440, 0, none⟩ = some (u441000) ∧ w'.cell? ⟨gb440, 1, none⟩ = some (.slice Ao10 y437.length co10) ∧ w'.cell? ⟨gb431, 0, none⟩ = some (.slice (some ad441) l0_0.length c0_0) ∧ w'.cell? ⟨gb431, 1, none⟩ = some (.slice A0_1 l0_1.length c0_1) ∧ w'.cell? (ad441.add ((x6_1).toNat * 2)) = some (.int .i64 ((rd_T36 l0_0 x6_1).f0)) ∧ w'.cell? ⟨(ad441.add ((x6_1).toNat * 2)).block, (ad441.add ((x6_1).toNat * 2)).off + 1, none⟩ = some (.int .i64 ((rd_T36 l0_0 x6_1).f1))) (ds := [10]) #[false, false, false, false, false, false, false, false, false, false, false] (by kernel_rfl) rfl rfl ⟨(blk_cell BK440.out 0).trans rfl, (blk_cell BK440.out 1).trans rfl, (blk_cell BK431.out 0).trans rfl, (blk_cell BK431.out 1).trans rfl, (cb HB hw442_0), (cb HB hw442_1)⟩ (fun hHeld => ?_); refine with_tabW spec_l2Off.tab6 spec_l2Off.bits6 (fun HT_ HW_ => ?_)
       generalize w25.drew = w26 at HO_441000 HO_441001 BK431 BK432 BK433 BK440 HB hx442_0 hx442_1 hHeld ⊢
       refine pu 0 25 ?_
       refine pu 2 27 ?_
       refine pu 4 29 ?_
       refine tk 1 26 ?_
       refine tk 3 28 ?_
       refine pu 5 30 ?_
       refine tk 6 31 ?_
       refine one_ (i := 7) (N := some 32) #[true, true, true, true, true, true, true, true, false, false, false] rfl rfl (one_of HT_.out (by kernel_rfl)) (by decide) (fun K hK => ?_)
       refine value_ (w1 := ?_) (v := ?_) (by rfl) rfl ?_ ?_
       rotate_left 2
       ·go_simp
        constructor
        ·rfl
        ·rfl
       refine hK.out _ _ ⟨(blk_cell (blk_alloc BK440.out _) 0).trans rfl, (blk_cell (blk_alloc BK440.out _) 1).trans rfl, (blk_cell (blk_alloc BK431.out _) 0).trans rfl, (blk_cell (blk_alloc BK431.out _) 1).trans rfl, (World.cell?_alloc_lt _ _ _ (World.block_lt_of_cell? _ _ ((cb HB hw442_0)))).trans ((cb HB hw442_0)), (World.cell?_alloc_lt _ _ _ (World.block_lt_of_cell? _ _ ((cb HB hw442_1)))).trans ((cb HB hw442_1))⟩ (fun hHeld => ?_)
       clear hK K
       refine nrm 32 ?_
       refine one_ (i := 8) (N := some 33) #[true, true, true, true, true, true, true, true, true, false, false] rfl rfl (one_of HT_.out (by kernel_rfl)) (by decide) (fun K hK => ?_)
       refine Kd.R_append_step k36 (w0 := w) w.heap.size (by rfl) (.tmp 26) (.tmp 32) 29 36 (.agg #[(.int .i64 0), (.int .i64 0)]) 16 rfl Try.underlying29 info36 rfl (by decide) (by omega) u441000 x441000_1 (⟨(rd_T36 l0_0 x6_1).f0, (rd_T36 l0_0 x6_1).f1⟩ : S36) [.int .i64 ((rd_T36 l0_0 x6_1).f0), .int .i64 ((rd_T36 l0_0 x6_1).f1)] (fun k_ => k_ ≠ gb432) (fun _ => False) rfl rfl ?aP (fun _ hk => hk.elim) ?aF ?aO ?aB ?aS ?aL ?_
       (case aP => exact k36_mkM _ _ _ (⟨(rd_T36 l0_0 x6_1).f0, (rd_T36 l0_0 x6_1).f1⟩ : S36))
       (case aB => exact (bs HB.out))
       (case aF => exact (fun k_ hk => Kd.freshB (g := gb432) (o := .cells #[.int .i64 a1_0, .int .i64 a1_1] 36 (0, 0)) (bf BK432.out) k_ hk))
       (case aO => exact (rl HO_441000.out))
       (case aS => exact (below_size (bs HB.out)))
       (case aL => have := LMc20.out; omega)
       intro v444 w27 ho hb hg hat
       rw [← Ny443.out] at ho
       replace HO_441001 := Aside0.mk (Kd.R_over' (rl HO_441001.out) (Kd.R_typed (rl HO_441000.out)) (by decide) hg)
       replace BK431 := gr BK431 HO_441000 hg
       replace BK432 := Aside0.mk (blk_grown (g := gb432) (o := .cells #[.int .i64 a1_0, .int .i64 a1_1] 36 (0, 0)) (bf BK432.out) hg (Kd.R_away HO_441000.out (fun _ hk => hk)))
       replace BK433 := gr BK433 HO_441000 hg
       replace BK440 := gr BK440 HO_441000 hg
       replace HB := Aside0.mk (hb)
       have HO445 := Aside0.mk (ho)
       clear HO_441000
       clear ho hb hg hat
       obtain ⟨Ao28, co28, eo28⟩ := Kd.R_slice HO445.out
       (first | subst eo28 | (injection eo28 with f1_ f2_ f3_; have f4_ := f1_.symm; have f5_ := f3_.symm; clear f1_ f2_ f3_; subst f4_; subst f5_))
       refine hK.out _ _ ⟨(blk_cell BK440.out 0).trans rfl, (blk_cell BK440.out 1).trans rfl, (blk_cell BK431.out 0).trans rfl, (blk_cell BK431.out 1).trans rfl, (cb HB hw442_0), (cb HB hw442_1)⟩ (fun hHeld => ?_)
       clear hK K
       refine nrm 33 ?_
       refine pu 9 34 ?_
       refine last_ (i := 10) (N := none) #[true, true, true, true, true, true, true, true, true, true, true] rfl rfl (one_of HT_.out (by kernel_rfl)) (by decide) (fun K hK => ?_)
       have hs29 : w27.cell? ⟨gb440, 0, none⟩ = some (u441000) := (blk_cell BK440.out 0).trans rfl
       have hfs29 := blk_frozen BK440.out 0
       have hns29_0 := NB431_440.out
       have hns29_1 := NB432_440.out
       have hns29_2 := NB433_440.out
       have hms29_0 := NB440_431.out
       have hms29_1 := NB440_432.out
       have hms29_2 := NB440_433.out
       refine skip_ (w1 := ?_) (by rfl) rfl ?_ ?_
       rotate_left
       ·go_simp
        rfl
       refine hK.out _ _ ?_
       clear hK K
       refine done_ (done_of HT_.out (by kernel_rfl)) ?_
       try go_wp2
       go_roundg k1
       case measure => have := HK1.out; omega
       case rel => exact ⟨(wrap64 (x6_1 + 1)), (y443), (.slice Ao28 y443.length co28), eqs, H', ⟨by have := HK1.out; omega⟩, ⟨Kd.R_mono (rt HO445.out BK440.out (by decide)) (fun _ hk => hk)⟩, ⟨Kd.R_mono (rt HO_441001.out BK440.out (by decide)) (fun _ hk => trivial)⟩, ⟨bf BK431.out⟩, ⟨bf BK432.out⟩, ⟨bf BK433.out⟩, ⟨by (with_reducible repeat (first | refine blk_drewN ?_ _ | refine blk_drew ?_ | refine blk_alloc ?_ _)); refine blk_put (cs := #[u441000, .slice Ao10 y437.length co10]) ?_ 0 _ rfl; exact bf BK440.out⟩, ⟨bs HB.out⟩⟩
      ·rw [if_neg c20] at H
       exact absurd H (by simp)
     ·rw [if_neg c19] at H
      have c19b0 : (!(((rd_T36 l0_0 x6_1).f0) == a1_0) || (!(((rd_T36 l0_0 x6_1).f1) == a1_1))) = false := by simpa using c19
      clear c19
      have H' := Aside0.mk H
      clear H
      have hnb30 := NB431_432.out
      have hnc30 := NB432_431.out
      have hnb31 := NB431_433.out
      have hnc31 := NB433_431.out
      have hnb32 := NB431_440.out
      have hnc32 := NB440_431.out
      obtain ⟨hcz33_0, hcz33_1⟩ := bc2 (w := wr) BK431.out
      have hfz33 := blk_frozen BK431.out
      try go_wp2
      replace HO_441000 := rd_ HO_441000
      replace HO_441001 := rd_ HO_441001
      replace BK431 := bd BK431
      replace BK432 := bd BK432
      replace BK433 := bd BK433
      replace BK440 := bd BK440
      replace HB := hd HB
      have p441 : 0 ≤ (x6_1 : Int) := oda
      have q441 : x6_1 < (l0_0.length : Int) := oda
      obtain ⟨ad441, e441, hx441_0, hx441_1⟩ := at_T36 HR0_0.out x6_1 p441 q441
      have hw441_1 := hx441_1
      have hw441_0 := hx441_0
      cases e441
      replace hx441_0 := cb HB hx441_0
      replace hx441_1 := cb HB hx441_1
      replace p441 := eq_true p441
      replace q441 := eq_true q441
      refine start_ (n := 7) (S := fun w' => w'.cell? ⟨gb431, 0, none⟩ = some (.slice (some ad441) l0_0.length c0_0) ∧ w'.cell? ⟨gb431, 1, none⟩ = some (.slice A0_1 l0_1.length c0_1) ∧ w'.cell? ⟨gb432, 0, none⟩ = some (.int .i64 a1_0) ∧ w'.cell? ⟨gb432, 1, none⟩ = some (.int .i64 a1_1) ∧ w'.cell? (ad441.add ((x6_1).toNat * 2)) = some (.int .i64 ((rd_T36 l0_0 x6_1).f0)) ∧ w'.cell? ⟨(ad441.add ((x6_1).toNat * 2)).block, (ad441.add ((x6_1).toNat * 2)).off + 1, none⟩ = some (.int .i64 ((rd_T36 l0_0 x6_1).f1))) (ds := []) #[false, false, false, false, false, false, false] (by kernel_rfl) rfl rfl ⟨(blk_cell BK431.out 0).trans rfl, (blk_cell BK431.out 1).trans rfl, (blk_cell BK432.out 0).trans rfl, (blk_cell BK432.out 1).trans rfl, (cb HB hw441_0), (cb HB hw441_1)⟩ (fun hHeld => ?_)
      generalize wr.drew = w34 at HO_441000 HO_441001 BK431 BK432 BK433 BK440 HB hx441_0 hx441_1 hHeld ⊢
      refine pu 0 18 ?_
      refine pu 2 20 ?_
      refine tk 1 19 ?_
      refine pu 3 21 ?_
      refine tk 4 22 ?_
      refine tk 5 23 ?_
      refine pu 6 24 ?_
      refine done_ (by kernel_rfl) ?_
      try go_wp2
      go_roundg k1
      case measure => have := HK1.out; omega
      case rel => exact ⟨(wrap64 (x6_1 + 1)), (x441000_1), (u441000), eqs, H', ⟨by have := HK1.out; omega⟩, ⟨rl HO_441000.out⟩, ⟨rl HO_441001.out⟩, ⟨bf BK431.out⟩, ⟨bf BK432.out⟩, ⟨bf BK433.out⟩, ⟨bf BK440.out⟩, ⟨bs HB.out⟩⟩
    ·rw [if_neg c18] at H
     exact absurd H (by simp)
   ·rw [if_neg c17] at H
    have c17b0 : decide (x6_1 < (l0_0.length : Int)) = false := decide_eq_false c17
    clear c17
    have H' := Aside0.mk H
    clear H
    have hnb35 := NB431_432.out
    have hnc35 := NB432_431.out
    have hnb36 := NB431_433.out
    have hnc36 := NB433_431.out
    have hnb37 := NB431_440.out
    have hnc37 := NB440_431.out
    obtain ⟨hcz38_0, hcz38_1⟩ := bc2 (w := wr) BK431.out
    have hfz38 := blk_frozen BK431.out
    go_wp2
    go_loopg [7] k1 (fun kq v7 w' => ∃ (x7_2 : Int) (x441001_2 : List (S56)) (u441001 : Value), v7 = .int .i64 x7_2 ∧ Aside0 (spec_l2Off.l1 kq x7_2 l0_0 l0_1 a1_0 a1_1 x441000_1 x441001_2 = some (r1, r2)) ∧ Aside0 (kq ≤ k1) ∧ Aside0 (Kd.R k36 36 w' w.heap.size (fun k_ => k_ ≠ gb432) u441000 x441000_1) ∧ Aside0 (Kd.R k56 56 w' w.heap.size (fun _ => True) u441001 x441001_2) ∧ Aside0 (w'.heap[gb431]? = some (.cells #[(.slice A0_0 l0_0.length c0_0), (.slice A0_1 l0_1.length c0_1)] 34 (0, 0))) ∧ Aside0 (w'.heap[gb432]? = some (.cells #[.int .i64 a1_0, .int .i64 a1_1] 36 (0, 0))) ∧ Aside0 (w'.heap[gb433]? = some (.cells #[(.slice none 0 0), (.slice none 0 0)] 34 (0, 0))) ∧ Aside0 (w'.heap[gb440]? = some (.cells #[u441000, u441001] 34 (0, 0))) ∧ Aside0 (Below w.heap.size w w'))
    case atStart => exact ⟨(0), (y437), (.slice Ao10 y437.length co10), eqs, H', ⟨Nat.le_refl _⟩, ⟨rl HO_441000.out⟩, ⟨rl HO_441001.out⟩, ⟨bf BK431.out⟩, ⟨bf BK432.out⟩, ⟨bf BK433.out⟩, ⟨bf BK440.out⟩, ⟨bs HB.out⟩⟩
    case round =>
     clear H'
     try clear c1
     try clear c2
     try clear p2
     try clear c3
     try clear p4
     try clear q4
     try clear hx4
     try clear p6
     try clear c12
     try clear c13
     try clear c14
     try clear c15
     try clear c17
     try clear c17b0
     try clear c18
     try clear c18b0
     try clear c19
     try clear c19b0
     try clear c20
     try clear c21
     try clear c22
     try clear c23
     try clear c30
     try clear c31
     try clear c32
     try clear c35
     try clear c36
     try clear c37
     try clear hcz16_0 hcz16_1
     try clear hcz24_0 hcz24_1
     try clear hcz33_0 hcz33_1
     try clear hcz38_0 hcz38_1
     try clear hfz16
     try clear hfz24
     try clear hfz33
     try clear hfz38
     try clear hx441_0
     try clear hx441_1
     try clear hx442_0
     try clear hx442_1
     try clear p2
     try clear p441
     try clear p442
     try clear q441
     try clear q442
     obtain ⟨x7_2, x441001_2, u441001, rfl, HA, HK2, HO_441000, HO_441001, BK431, BK432, BK433, BK440, HB⟩ := hrel
     cases gk with
     | zero => exact absurd HA.out (by simp [spec_l2Off.l1])
     | succ k2 =>
      have H := HA.out
      clear HA
      simp only [spec_l2Off.l1] at H
      by_cases c39 : x7_2 < (l0_1.length : Int)
      ·rw [if_pos c39] at H
       have c39b0 : decide (x7_2 < (l0_1.length : Int)) = true := decide_eq_true c39
       clear c39
       by_cases c40 : 0 ≤ x7_2
       ·rw [if_pos c40] at H
        have c40b0 : decide (0 ≤ x7_2) = true := decide_eq_true c40
        clear c40
        by_cases c41 : (!(((rd_T56 l0_1 x7_2).f1.f0) == a1_0) || (!(((rd_T56 l0_1 x7_2).f1.f1) == a1_1))) = true
        ·rw [if_pos c41] at H
         have c41b0 : (!(((rd_T56 l0_1 x7_2).f1.f0) == a1_0) || (!(((rd_T56 l0_1 x7_2).f1.f1) == a1_1))) = true := c41
         clear c41
         by_cases c42 : (!(((rd_T56 l0_1 x7_2).f2.f0) == a1_0) || (!(((rd_T56 l0_1 x7_2).f2.f1) == a1_1))) = true
         ·rw [if_pos c42] at H
          have c42b0 : (!(((rd_T56 l0_1 x7_2).f2.f0) == a1_0) || (!(((rd_T56 l0_1 x7_2).f2.f1) == a1_1))) = true := c42
          clear c42
          by_cases c43 : x441001_2.length < 3518437208883
          ·rw [if_pos c43] at H
           have LMc43 := Aside0.mk c43
           clear c43
           obtain ⟨y449, hy449⟩ : ∃ y_ : List (S56), y_ = (x441001_2 ++ [(⟨(rd_T56 l0_1 x7_2).f0, (⟨(rd_T56 l0_1 x7_2).f1.f0, (rd_T56 l0_1 x7_2).f1.f1⟩ : S36), (⟨(rd_T56 l0_1 x7_2).f2.f0, (rd_T56 l0_1 x7_2).f2.f1⟩ : S36)⟩ : S56)]) := ⟨_, rfl⟩
           replace H : (spec_l2Off.l1 k2 (wrap64 (x7_2 + 1)) l0_0 l0_1 a1_0 a1_1 x441000_1 y449) = some (r1, r2) := by first | (rw [hy449]; exact H) | exact H
           have Ny449 := Aside0.mk hy449
           clear hy449
           have H' := Aside0.mk H
           clear H
           have hnb44 := NB431_432.out
           have hnc44 := NB432_431.out
           have hnb45 := NB431_433.out
           have hnc45 := NB433_431.out
           have hnb46 := NB431_440.out
           have hnc46 := NB440_431.out
           obtain ⟨hcz47_0, hcz47_1⟩ := bc2 (w := wr) BK431.out
           have hfz47 := blk_frozen BK431.out
           try go_wp2
           replace HO_441000 := rd_ HO_441000
           replace HO_441001 := rd_ HO_441001
           replace BK431 := bd BK431
           replace BK432 := bd BK432
           replace BK433 := bd BK433
           replace BK440 := bd BK440
           replace HB := hd HB
           have p446 : 0 ≤ (x7_2 : Int) := oda
           have q446 : x7_2 < (l0_1.length : Int) := oda
           obtain ⟨ad446, e446, hx446_0, hx446_1, hx446_2, hx446_3, hx446_4⟩ := at_T56 HR0_1.out x7_2 p446 q446
           have hw446_4 := hx446_4
           have hw446_3 := hx446_3
           have hw446_2 := hx446_2
           have hw446_1 := hx446_1
           have hw446_0 := hx446_0
           cases e446
           replace hx446_0 := cb HB hx446_0
           replace hx446_1 := cb HB hx446_1
           replace hx446_2 := cb HB hx446_2
           replace hx446_3 := cb HB hx446_3
           replace hx446_4 := cb HB hx446_4
           replace p446 := eq_true p446
           replace q446 := eq_true q446
           have p447 : 0 ≤ (x7_2 : Int) := oda
           have q447 : x7_2 < (l0_1.length : Int) := oda
           obtain ⟨ad447, e447, hx447_0, hx447_1, hx447_2, hx447_3, hx447_4⟩ := at_T56 HR0_1.out x7_2 p447 q447
           have hw447_4 := hx447_4
           have hw447_3 := hx447_3
           have hw447_2 := hx447_2
           have hw447_1 := hx447_1
           have hw447_0 := hx447_0
           obtain rfl : ad446 = ad447 := (by injection e447)
           replace hx447_0 := cb HB hx447_0
           replace hx447_1 := cb HB hx447_1
           replace hx447_2 := cb HB hx447_2
           replace hx447_3 := cb HB hx447_3
           replace hx447_4 := cb HB hx447_4
           replace p447 := eq_true p447
           replace q447 := eq_true q447
           refine start_ (n := 18) (S := fun w' => w'.cell? ⟨gb431, 0, none⟩ = some (.slice A0_0 l0_0.length c0_0) ∧ w'.cell? ⟨gb431, 1, none⟩ = some (.slice (some ad446) l0_1.length c0_1) ∧ w'.cell? ⟨gb432, 0, none⟩ = some (.int .i64 a1_0) ∧ w'.cell? ⟨gb432, 1, none⟩ = some (.int .i64 a1_1) ∧ w'.cell? (ad446.add ((x7_2).toNat * 5)) = some (.int .i64 ((rd_T56 l0_1 x7_2).f0)) ∧ w'.cell? ⟨(ad446.add ((x7_2).toNat * 5)).block, (ad446.add ((x7_2).toNat * 5)).off + 1, none⟩ = some (.int .i64 ((rd_T56 l0_1 x7_2).f1.f0)) ∧ w'.cell? ⟨(ad446.add ((x7_2).toNat * 5)).block, (ad446.add ((x7_2).toNat * 5)).off + 2, none⟩ = some (.int .i64 ((rd_T56 l0_1 x7_2).f1.f1)) ∧ w'.cell? ⟨(ad446.add ((x7_2).toNat * 5)).block, (ad446.add ((x7_2).toNat * 5)).off + 3, none⟩ = some (.int .i64 ((rd_T56 l0_1 x7_2).f2.f0)) ∧ w'.cell? ⟨(ad446.add ((x7_2).toNat * 5)).block, (ad446.add ((x7_2).toNat * 5)).off + 4, none⟩ = some (.int .i64 ((rd_T56 l0_1 x7_2).f2.f1)) ∧ w'.cell? (ad446.add ((x7_2).toNat * 5)) = some (.int .i64 ((rd_T56 l0_1 x7_2).f0)) ∧ w'.cell? ⟨(ad446.add ((x7_2).toNat * 5)).block, (ad446.add ((x7_2).toNat * 5)).off + 1, none⟩ = some (.int .i64 ((rd_T56 l0_1 x7_2).f1.f0)) ∧ w'.cell? ⟨(ad446.add ((x7_2).toNat * 5)).block, (ad446.add ((x7_2).toNat * 5)).off + 2, none⟩ = some (.int .i64 ((rd_T56 l0_1 x7_2).f1.f1)) ∧ w'.cell? ⟨(ad446.add ((x7_2).toNat * 5)).block, (ad446.add ((x7_2).toNat * 5)).off + 3, none⟩ = some (.int .i64 ((rd_T56 l0_1 x7_2).f2.f0)) ∧ w'.cell? ⟨(ad446.add ((x7_2).toNat * 5)).block, (ad446.add ((x7_2).toNat * 5)).off + 4, none⟩ = some (.int .i64 ((rd_T56 l0_1 x7_2).f2.f1))) (ds := []) #[false, false, false, false, false, false, false, false, false, false, false, false, false, false, false, false, false, false] (by kernel_rfl) rfl rfl ⟨(blk_cell BK431.out 0).trans rfl, (blk_cell BK431.out 1).trans rfl, (blk_cell BK432.out 0).trans rfl, (blk_cell BK432.out 1).trans rfl, (cb HB hw446_0), (cb HB hw446_1), (cb HB hw446_2), (cb HB hw446_3), (cb HB hw446_4), (cb HB hw447_0), (cb HB hw447_1), (cb HB hw447_2), (cb HB hw447_3), (cb HB hw447_4)⟩ (fun hHeld => ?_); refine with_tabW spec_l2Off.tab10 spec_l2Off.bits10 (fun HT_ HW_ => ?_)
           generalize wr.drew = w48 at HO_441000 HO_441001 BK431 BK432 BK433 BK440 HB hx446_0 hx446_1 hx446_2 hx446_3 hx446_4 hx447_0 hx447_1 hx447_2 hx447_3 hx447_4 hHeld ⊢
           refine pu 0 42 ?_
           refine pu 2 44 ?_
           refine tk 1 43 ?_
           refine pu 3 45 ?_
           refine pu 4 46 ?_
           refine tk 5 47 ?_
           refine tk 6 48 ?_
           refine pu 7 49 ?_
           refine pu 8 50 ?_
           refine pu 9 51 ?_
           refine pu 11 53 ?_
           refine tk 10 52 ?_
           refine pu 12 54 ?_
           refine pu 13 55 ?_
           refine tk 14 56 ?_
           refine tk 15 57 ?_
           refine pu 16 58 ?_
           refine pu 17 59 ?_
           refine done_ (done_of HT_.out (by kernel_rfl)) ?_
           try go_wp2
           replace HO_441000 := rd_ HO_441000
           replace HO_441001 := rd_ HO_441001
           replace BK431 := bd BK431
           replace BK432 := bd BK432
           replace BK433 := bd BK433
           replace BK440 := bd BK440
           replace HB := hd HB
           have p448 : 0 ≤ (x7_2 : Int) := oda
           have q448 : x7_2 < (l0_1.length : Int) := oda
           obtain ⟨ad448, e448, hx448_0, hx448_1, hx448_2, hx448_3, hx448_4⟩ := at_T56 HR0_1.out x7_2 p448 q448
           have hw448_4 := hx448_4
           have hw448_3 := hx448_3
           have hw448_2 := hx448_2
           have hw448_1 := hx448_1
           have hw448_0 := hx448_0
           obtain rfl : ad446 = ad448 := (by injection e448)
           replace hx448_0 := cb HB hx448_0
           replace hx448_1 := cb HB hx448_1
           replace hx448_2 := cb HB hx448_2
           replace hx448_3 := cb HB hx448_3
           replace hx448_4 := cb HB hx448_4
           replace p448 := eq_true p448
           replace q448 := eq_true q448
           refine start_ (n := 11) (S := fun w' => w'.cell? ⟨gb440, 0, none⟩ = some (u441000) ∧ w'.cell? ⟨gb440, 1, none⟩ = some (u441001) ∧ w'.cell? ⟨gb431, 0, none⟩ = some (.slice A0_0 l0_0.length c0_0) ∧ w'.cell? ⟨gb431, 1, none⟩ = some (.slice (some ad446) l0_1.length c0_1) ∧ w'.cell? (ad446.add ((x7_2).toNat * 5)) = some (.int .i64 ((rd_T56 l0_1 x7_2).f0)) ∧ w'.cell? ⟨(ad446.add ((x7_2).toNat * 5)).block, (ad446.add ((x7_2).toNat * 5)).off + 1, none⟩ = some (.int .i64 ((rd_T56 l0_1 x7_2).f1.f0)) ∧ w'.cell? ⟨(ad446.add ((x7_2).toNat * 5)).block, (ad446.add ((x7_2).toNat * 5)).off + 2, none⟩ = some (.int .i64 ((rd_T56 l0_1 x7_2).f1.f1)) ∧ w'.cell? ⟨(ad446.add ((x7_2).toNat * 5)).block, (ad446.add ((x7_2).toNat * 5)).off + 3, none⟩ = some (.int .i64 ((rd_T56 l0_1 x7_2).f2.f0)) ∧ w'.cell? ⟨(ad446.add ((x7_2).toNat * 5)).block, (ad446.add ((x7_2).toNat * 5)).off + 4, none⟩ = some (.int .i64 ((rd_T56 l0_1 x7_2).f2.f1))) (ds := [10]) #[false, false, false, false, false, false, false, false, false, false, false] (by kernel_rfl) rfl rfl ⟨(blk_cell BK440.out 0).trans rfl, (blk_cell BK440.out 1).trans rfl, (blk_cell BK431.out 0).trans rfl, (blk_cell BK431.out 1).trans rfl, (cb HB hw448_0), (cb HB hw448_1), (cb HB hw448_2), (cb HB hw448_3), (cb HB hw448_4)⟩ (fun hHeld => ?_); refine with_tabW spec_l2Off.tab11 spec_l2Off.bits11 (fun HT_ HW_ => ?_)
           generalize w48.drew = w49 at HO_441000 HO_441001 BK431 BK432 BK433 BK440 HB hx448_0 hx448_1 hx448_2 hx448_3 hx448_4 hHeld ⊢
           refine pu 0 60 ?_
           refine pu 2 62 ?_
           refine pu 4 64 ?_
           refine tk 1 61 ?_
           refine tk 3 63 ?_
           refine pu 5 65 ?_
           refine tk 6 66 ?_
           refine one_ (i := 7) (N := some 67) #[true, true, true, true, true, true, true, true, false, false, false] rfl rfl (one_of HT_.out (by kernel_rfl)) (by decide) (fun K hK => ?_)
           refine value_ (w1 := ?_) (v := ?_) (by rfl) rfl ?_ ?_
           rotate_left 2
           ·go_simp
            constructor
            ·rfl
            ·rfl
           refine hK.out _ _ ⟨(blk_cell (blk_alloc BK440.out _) 0).trans rfl, (blk_cell (blk_alloc BK440.out _) 1).trans rfl, (blk_cell (blk_alloc BK431.out _) 0).trans rfl, (blk_cell (blk_alloc BK431.out _) 1).trans rfl, (World.cell?_alloc_lt _ _ _ (World.block_lt_of_cell? _ _ ((cb HB hw448_0)))).trans ((cb HB hw448_0)), (World.cell?_alloc_lt _ _ _ (World.block_lt_of_cell? _ _ ((cb HB hw448_1)))).trans ((cb HB hw448_1)), (World.cell?_alloc_lt _ _ _ (World.block_lt_of_cell? _ _ ((cb HB hw448_2)))).trans ((cb HB hw448_2)), (World.cell?_alloc_lt _ _ _ (World.block_lt_of_cell? _ _ ((cb HB hw448_3)))).trans ((cb HB hw448_3)), (World.cell?_alloc_lt _ _ _ (World.block_lt_of_cell? _ _ ((cb HB hw448_4)))).trans ((cb HB hw448_4))⟩ (fun hHeld => ?_)
           clear hK K
           refine nrm 67 ?_
           refine one_ (i := 8) (N := some 68) #[true, true, true, true, true, true, true, true, true, false, false] rfl rfl (one_of HT_.out (by kernel_rfl)) (by decide) (fun K hK => ?_)
           refine Kd.R_append_step k56 (w0 := w) w.heap.size (by rfl) (.tmp 61) (.tmp 67) 32 56 (.agg #[(.int .i64 0), (.int .i64 0), (.int .i64 0), (.int .i64 0), (.int .i64 0)]) 40 rfl Try.underlying32 info56 rfl (by decide) (by omega) u441001 x441001_2 (⟨(rd_T56 l0_1 x7_2).f0, (⟨(rd_T56 l0_1 x7_2).f1.f0, (rd_T56 l0_1 x7_2).f1.f1⟩ : S36), (⟨(rd_T56 l0_1 x7_2).f2.f0, (rd_T56 l0_1 x7_2).f2.f1⟩ : S36)⟩ : S56) [.int .i64 ((rd_T56 l0_1 x7_2).f0), .int .i64 ((rd_T56 l0_1 x7_2).f1.f0), .int .i64 ((rd_T56 l0_1 x7_2).f1.f1), .int .i64 ((rd_T56 l0_1 x7_2).f2.f0), .int .i64 ((rd_T56 l0_1 x7_2).f2.f1)] (fun _ => True) (fun _ => False) rfl rfl ?aP (fun _ hk => hk.elim) ?aF ?aO ?aB ?aS ?aL ?_
           (case aP => exact k56_mkM _ _ _ (⟨(rd_T56 l0_1 x7_2).f0, (⟨(rd_T56 l0_1 x7_2).f1.f0, (rd_T56 l0_1 x7_2).f1.f1⟩ : S36), (⟨(rd_T56 l0_1 x7_2).f2.f0, (rd_T56 l0_1 x7_2).f2.f1⟩ : S36)⟩ : S56))
           (case aB => exact (bs HB.out))
           (case aF => exact (fun _ _ => trivial))
           (case aO => exact (rl HO_441001.out))
           (case aS => exact (below_size (bs HB.out)))
           (case aL => have := LMc43.out; omega)
           intro v450 w50 ho hb hg hat
           rw [← Ny449.out] at ho
           replace HO_441000 := Aside0.mk (Kd.R_over' (rl HO_441000.out) (Kd.R_typed (rl HO_441001.out)) (by decide) hg)
           replace BK431 := gr BK431 HO_441001 hg
           replace BK432 := gr BK432 HO_441001 hg
           replace BK433 := gr BK433 HO_441001 hg
           replace BK440 := gr BK440 HO_441001 hg
           replace HB := Aside0.mk (hb)
           have HO451 := Aside0.mk (ho)
           clear HO_441001
           clear ho hb hg hat
           obtain ⟨Ao51, co51, eo51⟩ := Kd.R_slice HO451.out
           (first | subst eo51 | (injection eo51 with f1_ f2_ f3_; have f4_ := f1_.symm; have f5_ := f3_.symm; clear f1_ f2_ f3_; subst f4_; subst f5_))
           refine hK.out _ _ ⟨(blk_cell BK440.out 0).trans rfl, (blk_cell BK440.out 1).trans rfl, (blk_cell BK431.out 0).trans rfl, (blk_cell BK431.out 1).trans rfl, (cb HB hw448_0), (cb HB hw448_1), (cb HB hw448_2), (cb HB hw448_3), (cb HB hw448_4)⟩ (fun hHeld => ?_)
           clear hK K
           refine nrm 68 ?_
           refine pu 9 69 ?_
           refine last_ (i := 10) (N := none) #[true, true, true, true, true, true, true, true, true, true, true] rfl rfl (one_of HT_.out (by kernel_rfl)) (by decide) (fun K hK => ?_)
           have hs52 : w50.cell? ⟨gb440, 1, none⟩ = some (u441001) := (blk_cell BK440.out 1).trans rfl
           have hfs52 := blk_frozen BK440.out 1
           have hns52_0 := NB431_440.out
           have hns52_1 := NB432_440.out
           have hns52_2 := NB433_440.out
           have hms52_0 := NB440_431.out
           have hms52_1 := NB440_432.out
           have hms52_2 := NB440_433.out
           refine skip_ (w1 := ?_) (by rfl) rfl ?_ ?_
           rotate_left
           ·go_simp
            rfl
           refine hK.out _ _ ?_
           clear hK K
           refine done_ (done_of HT_.out (by kernel_rfl)) ?_
           try go_wp2
           go_roundg k2
           case measure => have := HK1.out; have := HK2.out; omega
           case rel => exact ⟨(wrap64 (x7_2 + 1)), (y449), (.slice Ao51 y449.length co51), eqs, H', ⟨by have := HK1.out; have := HK2.out; omega⟩, ⟨Kd.R_mono (rt HO_441000.out BK440.out (by decide)) (fun _ hk => hk)⟩, ⟨Kd.R_mono (rt HO451.out BK440.out (by decide)) (fun _ hk => trivial)⟩, ⟨bf BK431.out⟩, ⟨bf BK432.out⟩, ⟨bf BK433.out⟩, ⟨by (with_reducible repeat (first | refine blk_drewN ?_ _ | refine blk_drew ?_ | refine blk_alloc ?_ _)); refine blk_put (cs := #[u441000, u441001]) ?_ 1 _ rfl; exact bf BK440.out⟩, ⟨bs HB.out⟩⟩
          ·rw [if_neg c43] at H
           exact absurd H (by simp)
         ·rw [if_neg c42] at H
          have c42b0 : (!(((rd_T56 l0_1 x7_2).f2.f0) == a1_0) || (!(((rd_T56 l0_1 x7_2).f2.f1) == a1_1))) = false := by simpa using c42
          clear c42
          have H' := Aside0.mk H
          clear H
          have hnb53 := NB431_432.out
          have hnc53 := NB432_431.out
          have hnb54 := NB431_433.out
          have hnc54 := NB433_431.out
          have hnb55 := NB431_440.out
          have hnc55 := NB440_431.out
          obtain ⟨hcz56_0, hcz56_1⟩ := bc2 (w := wr) BK431.out
          have hfz56 := blk_frozen BK431.out
          try go_wp2
          replace HO_441000 := rd_ HO_441000
          replace HO_441001 := rd_ HO_441001
          replace BK431 := bd BK431
          replace BK432 := bd BK432
          replace BK433 := bd BK433
          replace BK440 := bd BK440
          replace HB := hd HB
          have p446 : 0 ≤ (x7_2 : Int) := oda
          have q446 : x7_2 < (l0_1.length : Int) := oda
          obtain ⟨ad446, e446, hx446_0, hx446_1, hx446_2, hx446_3, hx446_4⟩ := at_T56 HR0_1.out x7_2 p446 q446
          have hw446_4 := hx446_4
          have hw446_3 := hx446_3
          have hw446_2 := hx446_2
          have hw446_1 := hx446_1
          have hw446_0 := hx446_0
          cases e446
          replace hx446_0 := cb HB hx446_0
          replace hx446_1 := cb HB hx446_1
          replace hx446_2 := cb HB hx446_2
          replace hx446_3 := cb HB hx446_3
          replace hx446_4 := cb HB hx446_4
          replace p446 := eq_true p446
          replace q446 := eq_true q446
          have p447 : 0 ≤ (x7_2 : Int) := oda
          have q447 : x7_2 < (l0_1.length : Int) := oda
          obtain ⟨ad447, e447, hx447_0, hx447_1, hx447_2, hx447_3, hx447_4⟩ := at_T56 HR0_1.out x7_2 p447 q447
          have hw447_4 := hx447_4
          have hw447_3 := hx447_3
          have hw447_2 := hx447_2
          have hw447_1 := hx447_1
          have hw447_0 := hx447_0
          obtain rfl : ad446 = ad447 := (by injection e447)
          replace hx447_0 := cb HB hx447_0
          replace hx447_1 := cb HB hx447_1
          replace hx447_2 := cb HB hx447_2
          replace hx447_3 := cb HB hx447_3
          replace hx447_4 := cb HB hx447_4
          replace p447 := eq_true p447
          replace q447 := eq_true q447
          refine start_ (n := 18) (S := fun w' => w'.cell? ⟨gb431, 0, none⟩ = some (.slice A0_0 l0_0.length c0_0) ∧ w'.cell? ⟨gb431, 1, none⟩ = some (.slice (some ad446) l0_1.length c0_1) ∧ w'.cell? ⟨gb432, 0, none⟩ = some (.int .i64 a1_0) ∧ w'.cell? ⟨gb432, 1, none⟩ = some (.int .i64 a1_1) ∧ w'.cell? (ad446.add ((x7_2).toNat * 5)) = some (.int .i64 ((rd_T56 l0_1 x7_2).f0)) ∧ w'.cell? ⟨(ad446.add ((x7_2).toNat * 5)).block, (ad446.add ((x7_2).toNat * 5)).off + 1, none⟩ = some (.int .i64 ((rd_T56 l0_1 x7_2).f1.f0)) ∧ w'.cell? ⟨(ad446.add ((x7_2).toNat * 5)).block, (ad446.add ((x7_2).toNat * 5)).off + 2, none⟩ = some (.int .i64 ((rd_T56 l0_1 x7_2).f1.f1)) ∧ w'.cell? ⟨(ad446.add ((x7_2).toNat * 5)).block, (ad446.add ((x7_2).toNat * 5)).off + 3, none⟩ = some (.int .i64 ((rd_T56 l0_1 x7_2).f2.f0)) ∧ w'.cell? ⟨(ad446.add ((x7_2).toNat * 5)).block, (ad446.add ((x7_2).toNat * 5)).off + 4, none⟩ = some (.int .i64 ((rd_T56 l0_1 x7_2).f2.f1)) ∧ w'.cell? (ad446.add ((x7_2).toNat * 5)) = some (.int .i64 ((rd_T56 l0_1 x7_2).f0)) ∧ w'.cell? ⟨(ad446.add ((x7_2).toNat * 5)).block, (ad446.add ((x7_2).toNat * 5)).off + 1, none⟩ = some (.int .i64 ((rd_T56 l0_1 x7_2).f1.f0)) ∧ w'.cell? ⟨(ad446.add ((x7_2).toNat * 5)).block, (ad446.add ((x7_2).toNat * 5)).off + 2, none⟩ = some (.int .i64 ((rd_T56 l0_1 x7_2).f1.f1)) ∧ w'.cell? ⟨(ad446.add ((x7_2).toNat * 5)).block, (ad446.add ((x7_2).toNat * 5)).off + 3, none⟩ = some (.int .i64 ((rd_T56 l0_1 x7_2).f2.f0)) ∧ w'.cell? ⟨(ad446.add ((x7_2).toNat * 5)).block, (ad446.add ((x7_2).toNat * 5)).off + 4, none⟩ = some (.int .i64 ((rd_T56 l0_1 x7_2).f2.f1))) (ds := []) #[false, false, false, false, false, false, false, false, false, false, false, false, false, false, false, false, false, false] (by kernel_rfl) rfl rfl ⟨(blk_cell BK431.out 0).trans rfl, (blk_cell BK431.out 1).trans rfl, (blk_cell BK432.out 0).trans rfl, (blk_cell BK432.out 1).trans rfl, (cb HB hw446_0), (cb HB hw446_1), (cb HB hw446_2), (cb HB hw446_3), (cb HB hw446_4), (cb HB hw447_0), (cb HB hw447_1), (cb HB hw447_2), (cb HB hw447_3), (cb HB hw447_4)⟩ (fun hHeld => ?_); refine with_tabW spec_l2Off.tab10 spec_l2Off.bits10 (fun HT_ HW_ => ?_)
          generalize wr.drew = w57 at HO_441000 HO_441001 BK431 BK432 BK433 BK440 HB hx446_0 hx446_1 hx446_2 hx446_3 hx446_4 hx447_0 hx447_1 hx447_2 hx447_3 hx447_4 hHeld ⊢
          refine pu 0 42 ?_
          refine pu 2 44 ?_
          refine tk 1 43 ?_
          refine pu 3 45 ?_
          refine pu 4 46 ?_
          refine tk 5 47 ?_
          refine tk 6 48 ?_
          refine pu 7 49 ?_
          refine pu 8 50 ?_
          refine pu 9 51 ?_
          refine pu 11 53 ?_
          refine tk 10 52 ?_
          refine pu 12 54 ?_
          refine pu 13 55 ?_
          refine tk 14 56 ?_
          refine tk 15 57 ?_
          refine pu 16 58 ?_
          refine pu 17 59 ?_
          refine done_ (done_of HT_.out (by kernel_rfl)) ?_
          try go_wp2
          go_roundg k2
          case measure => have := HK1.out; have := HK2.out; omega
          case rel => exact ⟨(wrap64 (x7_2 + 1)), (x441001_2), (u441001), eqs, H', ⟨by have := HK1.out; have := HK2.out; omega⟩, ⟨rl HO_441000.out⟩, ⟨rl HO_441001.out⟩, ⟨bf BK431.out⟩, ⟨bf BK432.out⟩, ⟨bf BK433.out⟩, ⟨bf BK440.out⟩, ⟨bs HB.out⟩⟩
        ·rw [if_neg c41] at H
         have c41b0 : (!(((rd_T56 l0_1 x7_2).f1.f0) == a1_0) || (!(((rd_T56 l0_1 x7_2).f1.f1) == a1_1))) = false := by simpa using c41
         clear c41
         have H' := Aside0.mk H
         clear H
         have hnb58 := NB431_432.out
         have hnc58 := NB432_431.out
         have hnb59 := NB431_433.out
         have hnc59 := NB433_431.out
         have hnb60 := NB431_440.out
         have hnc60 := NB440_431.out
         obtain ⟨hcz61_0, hcz61_1⟩ := bc2 (w := wr) BK431.out
         have hfz61 := blk_frozen BK431.out
         try go_wp2
         replace HO_441000 := rd_ HO_441000
         replace HO_441001 := rd_ HO_441001
         replace BK431 := bd BK431
         replace BK432 := bd BK432
         replace BK433 := bd BK433
         replace BK440 := bd BK440
         replace HB := hd HB
         have p446 : 0 ≤ (x7_2 : Int) := oda
         have q446 : x7_2 < (l0_1.length : Int) := oda
         obtain ⟨ad446, e446, hx446_0, hx446_1, hx446_2, hx446_3, hx446_4⟩ := at_T56 HR0_1.out x7_2 p446 q446
         have hw446_4 := hx446_4
         have hw446_3 := hx446_3
         have hw446_2 := hx446_2
         have hw446_1 := hx446_1
         have hw446_0 := hx446_0
         cases e446
         replace hx446_0 := cb HB hx446_0
         replace hx446_1 := cb HB hx446_1
         replace hx446_2 := cb HB hx446_2
         replace hx446_3 := cb HB hx446_3
         replace hx446_4 := cb HB hx446_4
         replace p446 := eq_true p446
         replace q446 := eq_true q446
         refine start_ (n := 18) (S := fun w' => w'.cell? ⟨gb431, 0, none⟩ = some (.slice A0_0 l0_0.length c0_0) ∧ w'.cell? ⟨gb431, 1, none⟩ = some (.slice (some ad446) l0_1.length c0_1) ∧ w'.cell? ⟨gb432, 0, none⟩ = some (.int .i64 a1_0) ∧ w'.cell? ⟨gb432, 1, none⟩ = some (.int .i64 a1_1) ∧ w'.cell? (ad446.add ((x7_2).toNat * 5)) = some (.int .i64 ((rd_T56 l0_1 x7_2).f0)) ∧ w'.cell? ⟨(ad446.add ((x7_2).toNat * 5)).block, (ad446.add ((x7_2).toNat * 5)).off + 1, none⟩ = some (.int .i64 ((rd_T56 l0_1 x7_2).f1.f0)) ∧ w'.cell? ⟨(ad446.add ((x7_2).toNat * 5)).block, (ad446.add ((x7_2).toNat * 5)).off + 2, none⟩ = some (.int .i64 ((rd_T56 l0_1 x7_2).f1.f1)) ∧ w'.cell? ⟨(ad446.add ((x7_2).toNat * 5)).block, (ad446.add ((x7_2).toNat * 5)).off + 3, none⟩ = some (.int .i64 ((rd_T56 l0_1 x7_2).f2.f0)) ∧ w'.cell? ⟨(ad446.add ((x7_2).toNat * 5)).block, (ad446.add ((x7_2).toNat * 5)).off + 4, none⟩ = some (.int .i64 ((rd_T56 l0_1 x7_2).f2.f1))) (ds := []) #[false, false, false, false, false, false, false, false, false, false, false, false, false, false, false, false, false, false] (by kernel_rfl) rfl rfl ⟨(blk_cell BK431.out 0).trans rfl, (blk_cell BK431.out 1).trans rfl, (blk_cell BK432.out 0).trans rfl, (blk_cell BK432.out 1).trans rfl, (cb HB hw446_0), (cb HB hw446_1), (cb HB hw446_2), (cb HB hw446_3), (cb HB hw446_4)⟩ (fun hHeld => ?_); refine with_tabW spec_l2Off.tab10 spec_l2Off.bits10 (fun HT_ HW_ => ?_)
         generalize wr.drew = w62 at HO_441000 HO_441001 BK431 BK432 BK433 BK440 HB hx446_0 hx446_1 hx446_2 hx446_3 hx446_4 hHeld ⊢
         refine pu 0 42 ?_
         refine pu 2 44 ?_
         refine tk 1 43 ?_
         refine pu 3 45 ?_
         refine pu 4 46 ?_
         refine tk 5 47 ?_
         refine tk 6 48 ?_
         refine pu 7 49 ?_
         refine pu 8 50 ?_
         refine pure_ (i := 9) (N := some 51) (v := undef) (a' := ?_) #[true, true, true, true, true, true, true, true, true, true, false, false, false, false, false, false, false, false] rfl rfl (any_of HT_.out (by kernel_rfl)) (fun _ _ _ h => h) (Or.inr ⟨by rfl, rfl⟩) ?_ ?_
         rotate_left
         ·simp only [Act.put, List.setIfInBounds_toArray, List.set_cons_zero, List.set_cons_succ, i64_w, i32_w]
          rfl
         refine pure_ (i := 10) (N := some 52) (v := undef) (a' := ?_) #[true, true, true, true, true, true, true, true, true, true, true, false, false, false, false, false, false, false] rfl rfl (any_of HT_.out (by kernel_rfl)) (fun _ _ _ h => h) (Or.inr ⟨by rfl, rfl⟩) ?_ ?_
         rotate_left
         ·simp only [Act.put, List.setIfInBounds_toArray, List.set_cons_zero, List.set_cons_succ, i64_w, i32_w]
          rfl
         refine pure_ (i := 11) (N := some 53) (v := undef) (a' := ?_) #[true, true, true, true, true, true, true, true, true, true, true, true, false, false, false, false, false, false] rfl rfl (any_of HT_.out (by kernel_rfl)) (fun _ _ _ h => h) (Or.inr ⟨by rfl, rfl⟩) ?_ ?_
         rotate_left
         ·simp only [Act.put, List.setIfInBounds_toArray, List.set_cons_zero, List.set_cons_succ, i64_w, i32_w]
          rfl
         refine pure_ (i := 12) (N := some 54) (v := undef) (a' := ?_) #[true, true, true, true, true, true, true, true, true, true, true, true, true, false, false, false, false, false] rfl rfl (any_of HT_.out (by kernel_rfl)) (fun _ _ _ h => h) (Or.inr ⟨by rfl, rfl⟩) ?_ ?_
         rotate_left
         ·simp only [Act.put, List.setIfInBounds_toArray, List.set_cons_zero, List.set_cons_succ, i64_w, i32_w]
          rfl
         refine pure_ (i := 13) (N := some 55) (v := undef) (a' := ?_) #[true, true, true, true, true, true, true, true, true, true, true, true, true, true, false, false, false, false] rfl rfl (any_of HT_.out (by kernel_rfl)) (fun _ _ _ h => h) (Or.inr ⟨by rfl, rfl⟩) ?_ ?_
         rotate_left
         ·simp only [Act.put, List.setIfInBounds_toArray, List.set_cons_zero, List.set_cons_succ, i64_w, i32_w]
          rfl
         refine pure_ (i := 14) (N := some 56) (v := undef) (a' := ?_) #[true, true, true, true, true, true, true, true, true, true, true, true, true, true, true, false, false, false] rfl rfl (any_of HT_.out (by kernel_rfl)) (fun _ _ _ h => h) (Or.inr ⟨by rfl, rfl⟩) ?_ ?_
         rotate_left
         ·simp only [Act.put, List.setIfInBounds_toArray, List.set_cons_zero, List.set_cons_succ, i64_w, i32_w]
          rfl
         refine pure_ (i := 15) (N := some 57) (v := undef) (a' := ?_) #[true, true, true, true, true, true, true, true, true, true, true, true, true, true, true, true, false, false] rfl rfl (any_of HT_.out (by kernel_rfl)) (fun _ _ _ h => h) (Or.inr ⟨by rfl, rfl⟩) ?_ ?_
         rotate_left
         ·simp only [Act.put, List.setIfInBounds_toArray, List.set_cons_zero, List.set_cons_succ, i64_w, i32_w]
          rfl
         refine pure_ (i := 16) (N := some 58) (v := undef) (a' := ?_) #[true, true, true, true, true, true, true, true, true, true, true, true, true, true, true, true, true, false] rfl rfl (any_of HT_.out (by kernel_rfl)) (fun _ _ _ h => h) (Or.inr ⟨by rfl, rfl⟩) ?_ ?_
         rotate_left
         ·simp only [Act.put, List.setIfInBounds_toArray, List.set_cons_zero, List.set_cons_succ, i64_w, i32_w]
          rfl
         refine pu 17 59 ?_
         refine done_ (done_of HT_.out (by kernel_rfl)) ?_
         try go_wp2
         go_roundg k2
         case measure => have := HK1.out; have := HK2.out; omega
         case rel => exact ⟨(wrap64 (x7_2 + 1)), (x441001_2), (u441001), eqs, H', ⟨by have := HK1.out; have := HK2.out; omega⟩, ⟨rl HO_441000.out⟩, ⟨rl HO_441001.out⟩, ⟨bf BK431.out⟩, ⟨bf BK432.out⟩, ⟨bf BK433.out⟩, ⟨bf BK440.out⟩, ⟨bs HB.out⟩⟩
       ·rw [if_neg c40] at H
        exact absurd H (by simp)
      ·rw [if_neg c39] at H
       have c39b0 : decide (x7_2 < (l0_1.length : Int)) = false := decide_eq_false c39
       clear c39
       simp only [Option.some.injEq, Prod.mk.injEq] at H
       obtain ⟨rfl, rfl⟩ := H
       have hnb63 := NB431_432.out
       have hnc63 := NB432_431.out
       have hnb64 := NB431_433.out
       have hnc64 := NB433_431.out
       have hnb65 := NB431_440.out
       have hnc65 := NB440_431.out
       obtain ⟨hcz66_0, hcz66_1⟩ := bc2 (w := wr) BK431.out
       have hfz66 := blk_frozen BK431.out
       have hnb67 := NB440_432.out
       have hnc67 := NB432_440.out
       have hnb68 := NB440_433.out
       have hnc68 := NB433_440.out
       obtain ⟨hcz69_0, hcz69_1⟩ := bc2 (w := wr) BK440.out
       have hfz69 := blk_frozen BK440.out
       obtain ⟨Ao70, co70, eo70⟩ := Kd.R_slice HO_441000.out
       subst eo70
       have hnb71 := NB433_432.out
       have hnc71 := NB432_433.out
       obtain ⟨hcz72_0, hcz72_1⟩ := bc2 (w := wr) BK433.out
       have hfz72 := blk_frozen BK433.out
       obtain ⟨Ao73, co73, eo73⟩ := Kd.R_slice HO_441001.out
       subst eo73
       go_wp2
       refine bodyPost_ret (results_cell_row rfl _ _ gb433 34 #[.slice Ao70 x441000_1.length co70, .slice Ao73 x441001_2.length co73] (0, 0) _ rfl (bp BK433.out rfl) Try.underlying34 rfl (by kernel_rfl)) rfl ?_
       exact ⟨_, _, eqr, Kd.R_mono (rt HO_441000.out BK433.out (by decide)) (fun _ hk => trivial), Kd.R_mono (rt HO_441001.out BK433.out (by decide)) (fun _ hk => trivial), bs HB.out⟩

end Go.Proofs.Ytohmemckdogljaa.QFnGraphView
