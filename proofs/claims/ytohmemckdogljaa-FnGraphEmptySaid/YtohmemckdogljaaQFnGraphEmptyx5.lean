/- Contracts of the Go functions that this law reaches: each does what its plain Lean function says. No condition. -/
import Derived.Test.YtohmemckdogljaaQFnGraphEmptyx0
import Derived.Test.YtohmemckdogljaaQFnGraphEmptyx3
import Derived.Test.YtohmemckdogljaaQFnGraphEmptyx4
namespace Go.Proofs.Ytohmemckdogljaa.QFnGraphEmpty
open Go.RowKit Go.Proofs.YtohmemckdogljaaW.PrintWords Go.Proofs.YtohmemckdogljaaW.PrintLast Go.Proofs.YtohmemckdogljaaW.PrintMore Go.Proofs.Ytohmemckdogljaa.Bl
attribute [local go_sem] max2_int min2_int max_two min_two max_three min_three max_four min_four   -- for this text's walks alone
set_option linter.unusedVariables false
set_option linter.unusedSimpArgs false

/-! ### spec_l2View: function 84 -/
mutual
def spec_l2View.l0 : Nat → Int → Int → List (S36) → List (S56) → List (S36) → List (S56) → Option ((List (S36)) × (List (S56)))
 | 0, _, _, _, _, _, _ => none
 | k + 1, x1, x6, x121000, x121001, x129000, x129001 => if x6 < (x121000.length : Int) then (if 0 ≤ x6 then ((spec_l1Under.f k ((rd_T36 x121000 x6).f0) x1).bind fun t130 => (if t130 = true then (if x129000.length < 8796093022208 then (spec_l2View.l0 k x1 (wrap64 (x6 + 1)) x121000 x121001 (x129000 ++ [(⟨(rd_T36 x121000 x6).f0, (rd_T36 x121000 x6).f1⟩ : S36)]) x129001) else (none)) else (spec_l2View.l0 k x1 (wrap64 (x6 + 1)) x121000 x121001 x129000 x129001))) else (none)) else (spec_l2View.l1 k x1 0 x121000 x121001 x129000 x129001)
def spec_l2View.l1 : Nat → Int → Int → List (S36) → List (S56) → List (S36) → List (S56) → Option ((List (S36)) × (List (S56)))
 | 0, _, _, _, _, _, _ => none
 | k + 1, x1, x7, x121000, x121001, x129000, x129001 => if x7 < (x121001.length : Int) then (if 0 ≤ x7 then ((spec_l1Under.f k ((rd_T56 x121001 x7).f0) x1).bind fun t136 => (if t136 = true then (if x129001.length < 3518437208883 then (spec_l2View.l1 k x1 (wrap64 (x7 + 1)) x121000 x121001 x129000 (x129001 ++ [(⟨(rd_T56 x121001 x7).f0, (⟨(rd_T56 x121001 x7).f1.f0, (rd_T56 x121001 x7).f1.f1⟩ : S36), (⟨(rd_T56 x121001 x7).f2.f0, (rd_T56 x121001 x7).f2.f1⟩ : S36)⟩ : S56)])) else (none)) else (spec_l2View.l1 k x1 (wrap64 (x7 + 1)) x121000 x121001 x129000 x129001))) else (none)) else (some (x129000, x129001))
end
def spec_l2View.f (k : Nat) (l0_0 : List (S36)) (l0_1 : List (S56)) (a1 : Int) : Option ((List (S36)) × (List (S56))) := spec_l2View.l0 k a1 0 l0_0 l0_1 (([] : List (S36))) (([] : List (S56)))
def spec_l2View.T6 : Bool × List (List Nat × List Nat) := (true, [([], []), ([0], [0]), ([], []), ([2], [2]), ([], []), ([3, 4], [3, 4]), ([5], [5]), ([6], [6]), ([1, 7], [1, 7]), ([0, 1, 2, 3, 4, 5, 6, 7, 8], []), ([9, 8, 8, 0, 1, 2, 3, 4, 5, 6, 7, 8], [8, 9])])
def spec_l2View.B6 : List Nat := [0, 1, 0, 4, 0, 28, 60, 124, 255, 511, 1023]
theorem spec_l2View.tab6 : rtab .any (opsOf Try.f84 6) = spec_l2View.T6 := by kernel_rfl
theorem spec_l2View.bits6 : waitsOk spec_l2View.T6.2 spec_l2View.B6 = true := by kernel_rfl
def spec_l2View.T11 : Bool × List (List Nat × List Nat) := (true, [([], []), ([0], [0]), ([], []), ([2], [2]), ([], []), ([3, 4], [3, 4]), ([5], [5]), ([6], [6]), ([1, 7], [1, 7]), ([0, 1, 2, 3, 4, 5, 6, 7, 8], []), ([9, 8, 8, 0, 1, 2, 3, 4, 5, 6, 7, 8], [8, 9])])
def spec_l2View.B11 : List Nat := [0, 1, 0, 4, 0, 28, 60, 124, 255, 511, 1023]
theorem spec_l2View.tab11 : rtab .any (opsOf Try.f84 11) = spec_l2View.T11 := by kernel_rfl
theorem spec_l2View.bits11 : waitsOk spec_l2View.T11.2 spec_l2View.B11 = true := by kernel_rfl
set_option maxHeartbeats 8000000 in
set_option maxRecDepth 100000 in
theorem spec_l2View.calls (k : Nat) (A0_0 : Option Addr) (c0_0 : Nat) (l0_0 : List (S36)) (A0_1 : Option Addr) (c0_1 : Nat) (l0_1 : List (S56)) (a1 : Int) (r1 : List (S36)) (r2 : List (S56)) (w : World) (hr0_0 : Kd.C k36 w A0_0 l0_0.length l0_0) (hc0_0 : l0_0.length ≤ c0_0) (hr0_1 : Kd.C k56 w A0_1 l0_1.length l0_1) (hc0_1 : l0_1.length ≤ c0_1) (h : spec_l2View.f k l0_0 l0_1 a1 = some (r1, r2)) :
  Calls Try.prog 84 #[.agg #[.slice A0_0 l0_0.length c0_0, .slice A0_1 l0_1.length c0_1], .int .i64 a1] w fun e w' => ∃ v0_ v1_ : Value, e = .returned (.agg #[v0_, v1_]) ∧ Kd.R k36 36 w' w.heap.size (fun _ => True) v0_ r1 ∧ Kd.R k56 56 w' w.heap.size (fun _ => True) v1_ r2 ∧ Below w.heap.size w w' := by
 have hu34 := Try.underlying34
 have hu36 := Try.underlying36
 have hu56 := Try.underlying56
 have HR0_0 := Aside0.mk hr0_0
 have HC0_0 := Aside0.mk hc0_0
 clear hr0_0 hc0_0
 have HR0_1 := Aside0.mk hr0_1
 have HC0_1 := Aside0.mk hc0_1
 clear hr0_1 hc0_1
 have HB := Aside0.mk (Below.refl w.heap.size w)
 have H := h; unfold spec_l2View.f at H
 clear h
 obtain ⟨y122, hy122⟩ : ∃ y_ : List (S36), y_ = (([] : List (S36))) := ⟨_, rfl⟩
 replace H : (spec_l2View.l0 k a1 0 l0_0 l0_1 y122 (([] : List (S56)))) = some (r1, r2) := by first | (rw [hy122]; exact H) | exact H
 have Ny122 := Aside0.mk hy122
 clear hy122
 obtain ⟨y125, hy125⟩ : ∃ y_ : List (S56), y_ = (([] : List (S56))) := ⟨_, rfl⟩
 replace H : (spec_l2View.l0 k a1 0 l0_0 l0_1 y122 y125) = some (r1, r2) := by first | (rw [hy125]; exact H) | exact H
 have Ny125 := Aside0.mk hy125
 clear hy125
 have H' := Aside0.mk H
 clear H
 go_enter Try.func84, Try.ntmps84
 go_wp2_with (first | ((with_reducible refine gd (N := 2) rfl ?_); refine bx 2 (cs := #[.slice A0_0 l0_0.length c0_0, .slice A0_1 l0_1.length c0_1]) (t := 34) ?_; intro gb120 hg w3 hbox hb; have BK120 := Aside0.mk (hbox); have GW120 := gwb HB hg; replace HB := hs HB hb; clear hb hbox hg) | ((with_reducible refine gd (N := 4) rfl ?_); refine bx 4 (cs := #[.slice none 0 0, .slice none 0 0]) (t := 34) ?_; intro gb121 hg w4 hbox hb; have BK121 := Aside0.mk (hbox); have GW121 := gwb HB hg; replace HB := hs HB hb; have NB120_121 := nq BK120 hg; have NB121_120 := nq' BK120 hg; replace BK120 := bb BK120 hb rfl; clear hb hbox hg) | ((with_reducible refine gd (N := 8) rfl ?_); refine Kd.R_lit k36 _ 36 ?hg (N := 8) ?hd (xs := ([] : List (S36))) (inner := []) (ok := fun _ => True) (okp := fun _ => True) ?hr ?hp (fun _ hk => hk) trivial (Below.refl _ _) (Nat.le_refl _) (by simp) ?_; (case hd => rfl); (case hg => rfl); (case hr => first | (go_simp; done) | (go_simp; rfl)); (case hp => exact (Reps.none _ _)); intro v123 w5 ho6 hb hg_ hnew_; clear hg_ hnew_; (first | rw [← Ny122.out] at ho6 | (simp only [Int.reduceToNat] at ho6; rw [← Ny122.out] at ho6)); have HO124 := Aside0.mk (Kd.R_lower ho6 (below_size (bs HB.out))); replace BK120 := bb BK120 hb rfl; replace BK121 := bb BK121 hb rfl; replace HB := hs HB hb; clear hb ho6) | ((with_reducible refine gd (N := 9) rfl ?_); refine Kd.R_lit k56 _ 56 ?hg (N := 9) ?hd (xs := ([] : List (S56))) (inner := []) (ok := fun _ => True) (okp := fun _ => True) ?hr ?hp (fun _ hk => hk) trivial (Below.refl _ _) (Nat.le_refl _) (by simp) ?_; (case hd => rfl); (case hg => rfl); (case hr => first | (go_simp; done) | (go_simp; rfl)); (case hp => exact (Reps.none _ _)); intro v126 w7 ho8 hb hg_ hnew_; clear hg_ hnew_; (first | rw [← Ny125.out] at ho8 | (simp only [Int.reduceToNat] at ho8; rw [← Ny125.out] at ho8)); replace HO124 := rb HO124 hb; have HO127 := Aside0.mk (Kd.R_lower ho8 (below_size (bs HB.out))); replace BK120 := bb BK120 hb rfl; replace BK121 := bb BK121 hb rfl; replace HB := hs HB hb; clear hb ho8; obtain ⟨Ao9, co9, eo9⟩ := Kd.R_slice HO127.out; subst eo9; obtain ⟨Ao10, co10, eo10⟩ := Kd.R_slice HO124.out; subst eo10) | ((with_reducible refine gd (N := 5) rfl ?_); refine bx 5 (cs := #[.slice none 0 0, .slice none 0 0]) (t := 34) ?_; intro gb128 hg w11 hbox hb; replace HO124 := rb HO124 hb; replace HO127 := rb HO127 hb; have BK128 := Aside0.mk (hbox); have GW128 := gwb HB hg; replace HB := hs HB hb; have NB120_128 := nq BK120 hg; have NB128_120 := nq' BK120 hg; replace BK120 := bb BK120 hb rfl; have NB121_128 := nq BK121 hg; have NB128_121 := nq' BK121 hg; replace BK121 := bb BK121 hb rfl; clear hb hbox hg; have hnb12 := NB128_120.out; have hnc12 := NB120_128.out; have hnb13 := NB128_121.out; have hnc13 := NB121_128.out; obtain ⟨hcz14_0, hcz14_1⟩ := bc2 (w := w11) BK128.out; have hfz14 := blk_frozen BK128.out))
 go_loopg [6] k (fun kq v6 w' => ∃ (x6_1 : Int) (x129000_1 : List (S36)) (u129000 : Value), v6 = .int .i64 x6_1 ∧ Aside0 (spec_l2View.l0 kq a1 x6_1 l0_0 l0_1 x129000_1 y125 = some (r1, r2)) ∧ Aside0 (kq ≤ k) ∧ Aside0 (Kd.R k36 36 w' w.heap.size (fun _ => True) u129000 x129000_1) ∧ Aside0 (Kd.R k56 56 w' w.heap.size (fun _ => True) (.slice Ao9 y125.length co9) y125) ∧ Aside0 (w'.heap[gb120]? = some (.cells #[(.slice A0_0 l0_0.length c0_0), (.slice A0_1 l0_1.length c0_1)] 34 (0, 0))) ∧ Aside0 (w'.heap[gb121]? = some (.cells #[(.slice none 0 0), (.slice none 0 0)] 34 (0, 0))) ∧ Aside0 (w'.heap[gb128]? = some (.cells #[u129000, (.slice Ao9 y125.length co9)] 34 (0, 0))) ∧ Aside0 (Below w.heap.size w w'))
 case atStart => exact ⟨(0), (y122), (.slice Ao10 y122.length co10), (by first | rfl | (simp; done) | (simp [*]; done)), H', ⟨Nat.le_refl _⟩, ⟨Kd.R_mono (rt HO124.out BK128.out (by decide)) (fun _ hk => trivial)⟩, ⟨Kd.R_mono (rt HO127.out BK128.out (by decide)) (fun _ hk => trivial)⟩, ⟨bf BK120.out⟩, ⟨bf BK121.out⟩, ⟨by (with_reducible repeat (first | refine blk_drewN ?_ _ | refine blk_drew ?_ | refine blk_alloc ?_ _)); refine blk_put (cs := #[.slice Ao10 y122.length co10, .slice none 0 0]) ?_ 1 _ rfl; (with_reducible repeat (first | refine blk_drewN ?_ _ | refine blk_drew ?_ | refine blk_alloc ?_ _)); refine blk_put (cs := #[.slice none 0 0, .slice none 0 0]) ?_ 0 _ rfl; exact bf BK128.out⟩, ⟨bs HB.out⟩⟩
 case round =>
  clear H'
  try clear c1
  try clear p2
  try clear c8
  try clear c12
  try clear c13
  try clear hcz14_0 hcz14_1
  try clear hfz14
  obtain ⟨x6_1, x129000_1, u129000, rfl, HA, HK1, HO_129000, HO_129001, BK120, BK121, BK128, HB⟩ := hrel
  cases gk with
  | zero => exact absurd HA.out (by simp [spec_l2View.l0])
  | succ k1 =>
   have H := HA.out
   clear HA
   simp only [spec_l2View.l0] at H
   by_cases c15 : x6_1 < (l0_0.length : Int)
   ·rw [if_pos c15] at H
    have c15b0 : decide (x6_1 < (l0_0.length : Int)) = true := decide_eq_true c15
    clear c15
    by_cases c16 : 0 ≤ x6_1
    ·rw [if_pos c16] at H
     have c16b0 : decide (0 ≤ x6_1) = true := decide_eq_true c16
     clear c16
     replace H := Option.bind_eq_some_iff.mp H
     obtain ⟨t130, A170, H⟩ := H
     try dsimp -simprocs only at H
     have A17 := Aside0.mk A170
     clear A170
     by_cases c18 : t130 = true
     ·subst c18
      have H1 : (if x129000_1.length < 8796093022208 then (spec_l2View.l0 k1 a1 (wrap64 (x6_1 + 1)) l0_0 l0_1 (x129000_1 ++ [(⟨(rd_T36 l0_0 x6_1).f0, (rd_T36 l0_0 x6_1).f1⟩ : S36)]) y125) else (none)) = some (r1, r2) := by rw [if_pos rfl] at H; exact H
      clear H
      have H := H1
      clear H1
      by_cases c19 : x129000_1.length < 8796093022208
      ·rw [if_pos c19] at H
       have LMc19 := Aside0.mk c19
       clear c19
       obtain ⟨y132, hy132⟩ : ∃ y_ : List (S36), y_ = (x129000_1 ++ [(⟨(rd_T36 l0_0 x6_1).f0, (rd_T36 l0_0 x6_1).f1⟩ : S36)]) := ⟨_, rfl⟩
       replace H : (spec_l2View.l0 k1 a1 (wrap64 (x6_1 + 1)) l0_0 l0_1 y132 y125) = some (r1, r2) := by first | (rw [hy132]; exact H) | exact H
       have Ny132 := Aside0.mk hy132
       clear hy132
       have H' := Aside0.mk H
       clear H
       have hnb20 := NB120_121.out
       have hnc20 := NB121_120.out
       have hnb21 := NB120_128.out
       have hnc21 := NB128_120.out
       obtain ⟨hcz22_0, hcz22_1⟩ := bc2 (w := wr) BK120.out
       have hfz22 := blk_frozen BK120.out
       have p129 : 0 ≤ (x6_1 : Int) := of_decide_eq_true (by first | (with_reducible assumption) | assumption)
       have q129 : x6_1 < (l0_0.length : Int) := of_decide_eq_true (by first | (with_reducible assumption) | assumption)
       obtain ⟨ad129, e129, hx129_0, hx129_1⟩ := at_T36 HR0_0.out x6_1 p129 q129
       cases e129
       replace hx129_0 := (HB.out.cell (World.block_lt_of_cell? w _ hx129_0)).trans hx129_0
       replace hx129_1 := (HB.out.cell (World.block_lt_of_cell? w _ hx129_1)).trans hx129_1
       replace p129 := eq_true p129
       replace q129 := eq_true q129
       try go_wp2_with (first | ((with_reducible refine gc (f := 115) rfl ?_); refine gl 25 Try.func115 #[.int .i64 ((rd_T36 l0_0 x6_1).f0), .int .i64 a1] ?_; (with_reducible refine (spec_l1Under.calls k1 ((rd_T36 l0_0 x6_1).f0) a1 true _ A17.out).mono ?_); rintro e w' ⟨rfl, ⟨nd, rfl⟩⟩; refine ⟨_, rfl, ?_⟩; (try (rw [drewN_self wr]; generalize hq_ : World.drewN wr _ = wr; have n0_ : Aside0 (Kd.R k36 36 wr w.heap.size (fun _ => True) u129000 x129000_1) := ⟨by rw [← hq_]; exact (rl HO_129000.out)⟩; have n1_ : Aside0 (Kd.R k56 56 wr w.heap.size (fun _ => True) (.slice Ao9 y125.length co9) y125) := ⟨by rw [← hq_]; exact (rl HO_129001.out)⟩; have n2_ : Aside0 (wr.heap[gb120]? = some (.cells #[.slice (some ad129) l0_0.length c0_0, .slice A0_1 l0_1.length c0_1] 34 (0, 0))) := ⟨by rw [← hq_]; exact (bf BK120.out)⟩; have n3_ : Aside0 (wr.heap[gb121]? = some (.cells #[.slice none 0 0, .slice none 0 0] 34 (0, 0))) := ⟨by rw [← hq_]; exact (bf BK121.out)⟩; have n4_ : Aside0 (wr.heap[gb128]? = some (.cells #[u129000, .slice Ao9 y125.length co9] 34 (0, 0))) := ⟨by rw [← hq_]; exact (bf BK128.out)⟩; have n5_ : Aside0 (Below w.heap.size w wr) := ⟨by rw [← hq_]; exact (bs HB.out)⟩; clear HO_129000 HO_129001 BK120 BK121 BK128 HB hq_; have HO_129000 := n0_; have HO_129001 := n1_; have BK120 := n2_; have BK121 := n3_; have BK128 := n4_; have HB := n5_; clear n0_ n1_ n2_ n3_ n4_ n5_))))
       replace HO_129000 := rd_ HO_129000
       replace HO_129001 := rd_ HO_129001
       replace BK120 := bd BK120
       replace BK121 := bd BK121
       replace BK128 := bd BK128
       replace HB := hd HB
       have p131 : 0 ≤ (x6_1 : Int) := of_decide_eq_true (by first | (with_reducible assumption) | assumption)
       have q131 : x6_1 < (l0_0.length : Int) := of_decide_eq_true (by first | (with_reducible assumption) | assumption)
       obtain ⟨ad131, e131, hx131_0, hx131_1⟩ := at_T36 HR0_0.out x6_1 p131 q131
       have hw131_1 := hx131_1
       have hw131_0 := hx131_0
       obtain rfl : ad129 = ad131 := (by injection e131)
       replace hx131_0 := (HB.out.cell (World.block_lt_of_cell? w _ hx131_0)).trans hx131_0
       replace hx131_1 := (HB.out.cell (World.block_lt_of_cell? w _ hx131_1)).trans hx131_1
       replace p131 := eq_true p131
       replace q131 := eq_true q131
       refine start_ (n := 11) (S := fun w' => w'.cell? ⟨gb128, 0, none⟩ = some (u129000) ∧ w'.cell? ⟨gb128, 1, none⟩ = some (.slice Ao9 y125.length co9) ∧ w'.cell? ⟨gb120, 0, none⟩ = some (.slice (some ad129) l0_0.length c0_0) ∧ w'.cell? ⟨gb120, 1, none⟩ = some (.slice A0_1 l0_1.length c0_1) ∧ w'.cell? (ad129.add ((x6_1).toNat * 2)) = some (.int .i64 ((rd_T36 l0_0 x6_1).f0)) ∧ w'.cell? ⟨(ad129.add ((x6_1).toNat * 2)).block, (ad129.add ((x6_1).toNat * 2)).off + 1, none⟩ = some (.int .i64 ((rd_T36 l0_0 x6_1).f1))) (ds := [10]) #[false, false, false, false, false, false, false, false, false, false, false] (by kernel_rfl) rfl rfl ⟨(blk_cell BK128.out 0).trans rfl, (blk_cell BK128.out 1).trans rfl, (blk_cell BK120.out 0).trans rfl, (blk_cell BK120.out 1).trans rfl, ((HB.out.cell (World.block_lt_of_cell? w _ hw131_0)).trans hw131_0), ((HB.out.cell (World.block_lt_of_cell? w _ hw131_1)).trans hw131_1)⟩ (fun hHeld => ?_); refine with_tabW spec_l2View.tab6 spec_l2View.bits6 (fun HT_ HW_ => ?_)
       generalize wr.drew = w23 at HO_129000 HO_129001 BK120 BK121 BK128 HB hx131_0 hx131_1 hHeld ⊢
       refine pu 0 26 ?_
       refine pu 2 28 ?_
       refine pu 4 30 ?_
       refine tk 1 27 ?_
       refine tk 3 29 ?_
       refine pu 5 31 ?_
       refine tk 6 32 ?_
       refine one_ (i := 7) (N := some 33) #[true, true, true, true, true, true, true, true, false, false, false] rfl rfl (one_of HT_.out (by kernel_rfl)) (by decide) (fun K hK => ?_)
       refine value_ (w1 := ?_) (v := ?_) (by rfl) rfl ?_ ?_
       rotate_left 2
       ·go_simp
        constructor
        ·rfl
        ·rfl
       refine hK.out _ _ ⟨(blk_cell (blk_alloc BK128.out _) 0).trans rfl, (blk_cell (blk_alloc BK128.out _) 1).trans rfl, (blk_cell (blk_alloc BK120.out _) 0).trans rfl, (blk_cell (blk_alloc BK120.out _) 1).trans rfl, (World.cell?_alloc_lt _ _ _ (World.block_lt_of_cell? _ _ (((HB.out.cell (World.block_lt_of_cell? w _ hw131_0)).trans hw131_0)))).trans (((HB.out.cell (World.block_lt_of_cell? w _ hw131_0)).trans hw131_0)), (World.cell?_alloc_lt _ _ _ (World.block_lt_of_cell? _ _ (((HB.out.cell (World.block_lt_of_cell? w _ hw131_1)).trans hw131_1)))).trans (((HB.out.cell (World.block_lt_of_cell? w _ hw131_1)).trans hw131_1))⟩ (fun hHeld => ?_)
       clear hK K
       refine nrm 33 ?_
       refine one_ (i := 8) (N := some 34) #[true, true, true, true, true, true, true, true, true, false, false] rfl rfl (one_of HT_.out (by kernel_rfl)) (by decide) (fun K hK => ?_)
       refine Kd.R_append_step k36 (w0 := w) w.heap.size (by rfl) (.tmp 27) (.tmp 33) 29 36 (.agg #[(.int .i64 0), (.int .i64 0)]) 16 rfl Try.underlying29 info36 rfl (by decide) (by omega) u129000 x129000_1 (⟨(rd_T36 l0_0 x6_1).f0, (rd_T36 l0_0 x6_1).f1⟩ : S36) [.int .i64 ((rd_T36 l0_0 x6_1).f0), .int .i64 ((rd_T36 l0_0 x6_1).f1)] (fun _ => True) (fun _ => False) rfl rfl ?aP (fun _ hk => hk.elim) ?aF ?aO ?aB ?aS ?aL ?_
       (case aP => exact k36_mkM _ _ _ (⟨(rd_T36 l0_0 x6_1).f0, (rd_T36 l0_0 x6_1).f1⟩ : S36))
       (case aB => exact (bs HB.out))
       (case aF => exact (fun _ _ => trivial))
       (case aO => exact (rl HO_129000.out))
       (case aS => exact (below_size (bs HB.out)))
       (case aL => have := LMc19.out; omega)
       intro v133 w24 ho hb hg hat
       rw [← Ny132.out] at ho
       replace HO_129001 := Aside0.mk (Kd.R_over' (rl HO_129001.out) (Kd.R_typed (rl HO_129000.out)) (by decide) hg)
       replace BK120 := gr BK120 HO_129000 hg
       replace BK121 := gr BK121 HO_129000 hg
       replace BK128 := gr BK128 HO_129000 hg
       replace HB := Aside0.mk (hb)
       have HO134 := Aside0.mk (ho)
       clear HO_129000
       clear ho hb hg hat
       obtain ⟨Ao25, co25, eo25⟩ := Kd.R_slice HO134.out
       (first | subst eo25 | (injection eo25 with f1_ f2_ f3_; have f4_ := f1_.symm; have f5_ := f3_.symm; clear f1_ f2_ f3_; subst f4_; subst f5_))
       refine hK.out _ _ ⟨(blk_cell BK128.out 0).trans rfl, (blk_cell BK128.out 1).trans rfl, (blk_cell BK120.out 0).trans rfl, (blk_cell BK120.out 1).trans rfl, ((HB.out.cell (World.block_lt_of_cell? w _ hw131_0)).trans hw131_0), ((HB.out.cell (World.block_lt_of_cell? w _ hw131_1)).trans hw131_1)⟩ (fun hHeld => ?_)
       clear hK K
       refine nrm 34 ?_
       refine pu 9 35 ?_
       refine last_ (i := 10) (N := none) #[true, true, true, true, true, true, true, true, true, true, true] rfl rfl (one_of HT_.out (by kernel_rfl)) (by decide) (fun K hK => ?_)
       have hs26 : w24.cell? ⟨gb128, 0, none⟩ = some (u129000) := (blk_cell BK128.out 0).trans rfl
       have hfs26 := blk_frozen BK128.out 0
       have hns26_0 := NB120_128.out
       have hns26_1 := NB121_128.out
       have hms26_0 := NB128_120.out
       have hms26_1 := NB128_121.out
       refine skip_ (w1 := ?_) (by rfl) rfl ?_ ?_
       rotate_left
       ·go_simp
        rfl
       refine hK.out _ _ ?_
       clear hK K
       refine done_ (done_of HT_.out (by kernel_rfl)) ?_
       try go_wp2
       go_roundg k1
       case measure => have := HK1.out; omega
       case rel => exact ⟨(wrap64 (x6_1 + 1)), (y132), (.slice Ao25 y132.length co25), (by first | rfl | (simp; done) | (simp [*]; done)), H', ⟨by have := HK1.out; omega⟩, ⟨Kd.R_mono (rt HO134.out BK128.out (by decide)) (fun _ hk => trivial)⟩, ⟨Kd.R_mono (rt HO_129001.out BK128.out (by decide)) (fun _ hk => trivial)⟩, ⟨bf BK120.out⟩, ⟨bf BK121.out⟩, ⟨by (with_reducible repeat (first | refine blk_drewN ?_ _ | refine blk_drew ?_ | refine blk_alloc ?_ _)); refine blk_put (cs := #[u129000, .slice Ao9 y125.length co9]) ?_ 0 _ rfl; exact bf BK128.out⟩, ⟨bs HB.out⟩⟩
      ·rw [if_neg c19] at H
       exact absurd H (by simp)
     ·replace c18 := Bool.eq_false_iff.mpr c18
      subst c18
      have H1 : (spec_l2View.l0 k1 a1 (wrap64 (x6_1 + 1)) l0_0 l0_1 x129000_1 y125) = some (r1, r2) := by rw [if_neg (show ¬ (false = true) by decide)] at H; exact H
      clear H
      have H := H1
      clear H1
      have H' := Aside0.mk H
      clear H
      have hnb27 := NB120_121.out
      have hnc27 := NB121_120.out
      have hnb28 := NB120_128.out
      have hnc28 := NB128_120.out
      obtain ⟨hcz29_0, hcz29_1⟩ := bc2 (w := wr) BK120.out
      have hfz29 := blk_frozen BK120.out
      have p129 : 0 ≤ (x6_1 : Int) := of_decide_eq_true (by first | (with_reducible assumption) | assumption)
      have q129 : x6_1 < (l0_0.length : Int) := of_decide_eq_true (by first | (with_reducible assumption) | assumption)
      obtain ⟨ad129, e129, hx129_0, hx129_1⟩ := at_T36 HR0_0.out x6_1 p129 q129
      cases e129
      replace hx129_0 := (HB.out.cell (World.block_lt_of_cell? w _ hx129_0)).trans hx129_0
      replace hx129_1 := (HB.out.cell (World.block_lt_of_cell? w _ hx129_1)).trans hx129_1
      replace p129 := eq_true p129
      replace q129 := eq_true q129
      go_wp2_with (first | ((with_reducible refine gc (f := 115) rfl ?_); refine gl 25 Try.func115 #[.int .i64 ((rd_T36 l0_0 x6_1).f0), .int .i64 a1] ?_; (with_reducible refine (spec_l1Under.calls k1 ((rd_T36 l0_0 x6_1).f0) a1 false _ A17.out).mono ?_); rintro e w' ⟨rfl, ⟨nd, rfl⟩⟩; refine ⟨_, rfl, ?_⟩))
      go_roundg k1
      case measure => have := HK1.out; omega
      case rel => exact ⟨(wrap64 (x6_1 + 1)), (x129000_1), (u129000), (by first | rfl | (simp; done) | (simp [*]; done)), H', ⟨by have := HK1.out; omega⟩, ⟨rl HO_129000.out⟩, ⟨rl HO_129001.out⟩, ⟨bf BK120.out⟩, ⟨bf BK121.out⟩, ⟨bf BK128.out⟩, ⟨bs HB.out⟩⟩
    ·rw [if_neg c16] at H
     exact absurd H (by simp)
   ·rw [if_neg c15] at H
    have c15b0 : decide (x6_1 < (l0_0.length : Int)) = false := decide_eq_false c15
    clear c15
    have H' := Aside0.mk H
    clear H
    have hnb30 := NB120_121.out
    have hnc30 := NB121_120.out
    have hnb31 := NB120_128.out
    have hnc31 := NB128_120.out
    obtain ⟨hcz32_0, hcz32_1⟩ := bc2 (w := wr) BK120.out
    have hfz32 := blk_frozen BK120.out
    go_wp2
    go_loopg [7] k1 (fun kq v7 w' => ∃ (x7_2 : Int) (x129001_2 : List (S56)) (u129001 : Value), v7 = .int .i64 x7_2 ∧ Aside0 (spec_l2View.l1 kq a1 x7_2 l0_0 l0_1 x129000_1 x129001_2 = some (r1, r2)) ∧ Aside0 (kq ≤ k1) ∧ Aside0 (Kd.R k36 36 w' w.heap.size (fun _ => True) u129000 x129000_1) ∧ Aside0 (Kd.R k56 56 w' w.heap.size (fun _ => True) u129001 x129001_2) ∧ Aside0 (w'.heap[gb120]? = some (.cells #[(.slice A0_0 l0_0.length c0_0), (.slice A0_1 l0_1.length c0_1)] 34 (0, 0))) ∧ Aside0 (w'.heap[gb121]? = some (.cells #[(.slice none 0 0), (.slice none 0 0)] 34 (0, 0))) ∧ Aside0 (w'.heap[gb128]? = some (.cells #[u129000, u129001] 34 (0, 0))) ∧ Aside0 (Below w.heap.size w w'))
    case atStart => exact ⟨(0), (y125), (.slice Ao9 y125.length co9), (by first | rfl | (simp; done) | (simp [*]; done)), H', ⟨Nat.le_refl _⟩, ⟨rl HO_129000.out⟩, ⟨rl HO_129001.out⟩, ⟨bf BK120.out⟩, ⟨bf BK121.out⟩, ⟨bf BK128.out⟩, ⟨bs HB.out⟩⟩
    case round =>
     clear H'
     try clear c1
     try clear p1
     try clear q1
     try clear hx1
     try clear c2
     try clear p2
     try clear c3
     try clear p6
     try clear c8
     try clear c11
     try clear c12
     try clear p12
     try clear q12
     try clear hx12
     try clear c13
     try clear p13
     try clear q13
     try clear hx13
     try clear c15
     try clear c15b0
     try clear c16
     try clear c16b0
     try clear c18
     try clear c19
     try clear c20
     try clear c21
     try clear c27
     try clear c28
     try clear c30
     try clear c31
     try clear hcz14_0 hcz14_1
     try clear hcz22_0 hcz22_1
     try clear hcz29_0 hcz29_1
     try clear hcz32_0 hcz32_1
     try clear hfz14
     try clear hfz22
     try clear hfz29
     try clear hfz32
     try clear hx129_0
     try clear hx129_1
     try clear hx131_0
     try clear hx131_1
     try clear p129
     try clear p131
     try clear p2
     try clear q129
     try clear q131
     obtain ⟨x7_2, x129001_2, u129001, rfl, HA, HK2, HO_129000, HO_129001, BK120, BK121, BK128, HB⟩ := hrel
     cases gk with
     | zero => exact absurd HA.out (by simp [spec_l2View.l1])
     | succ k2 =>
      have H := HA.out
      clear HA
      simp only [spec_l2View.l1] at H
      by_cases c33 : x7_2 < (l0_1.length : Int)
      ·rw [if_pos c33] at H
       have c33b0 : decide (x7_2 < (l0_1.length : Int)) = true := decide_eq_true c33
       clear c33
       by_cases c34 : 0 ≤ x7_2
       ·rw [if_pos c34] at H
        have c34b0 : decide (0 ≤ x7_2) = true := decide_eq_true c34
        clear c34
        replace H := Option.bind_eq_some_iff.mp H
        obtain ⟨t136, A350, H⟩ := H
        try dsimp -simprocs only at H
        have A35 := Aside0.mk A350
        clear A350
        by_cases c36 : t136 = true
        ·subst c36
         have H1 : (if x129001_2.length < 3518437208883 then (spec_l2View.l1 k2 a1 (wrap64 (x7_2 + 1)) l0_0 l0_1 x129000_1 (x129001_2 ++ [(⟨(rd_T56 l0_1 x7_2).f0, (⟨(rd_T56 l0_1 x7_2).f1.f0, (rd_T56 l0_1 x7_2).f1.f1⟩ : S36), (⟨(rd_T56 l0_1 x7_2).f2.f0, (rd_T56 l0_1 x7_2).f2.f1⟩ : S36)⟩ : S56)])) else (none)) = some (r1, r2) := by rw [if_pos rfl] at H; exact H
         clear H
         have H := H1
         clear H1
         by_cases c37 : x129001_2.length < 3518437208883
         ·rw [if_pos c37] at H
          have LMc37 := Aside0.mk c37
          clear c37
          obtain ⟨y138, hy138⟩ : ∃ y_ : List (S56), y_ = (x129001_2 ++ [(⟨(rd_T56 l0_1 x7_2).f0, (⟨(rd_T56 l0_1 x7_2).f1.f0, (rd_T56 l0_1 x7_2).f1.f1⟩ : S36), (⟨(rd_T56 l0_1 x7_2).f2.f0, (rd_T56 l0_1 x7_2).f2.f1⟩ : S36)⟩ : S56)]) := ⟨_, rfl⟩
          replace H : (spec_l2View.l1 k2 a1 (wrap64 (x7_2 + 1)) l0_0 l0_1 x129000_1 y138) = some (r1, r2) := by first | (rw [hy138]; exact H) | exact H
          have Ny138 := Aside0.mk hy138
          clear hy138
          have H' := Aside0.mk H
          clear H
          have hnb38 := NB120_121.out
          have hnc38 := NB121_120.out
          have hnb39 := NB120_128.out
          have hnc39 := NB128_120.out
          obtain ⟨hcz40_0, hcz40_1⟩ := bc2 (w := wr) BK120.out
          have hfz40 := blk_frozen BK120.out
          have p135 : 0 ≤ (x7_2 : Int) := of_decide_eq_true (by first | (with_reducible assumption) | assumption)
          have q135 : x7_2 < (l0_1.length : Int) := of_decide_eq_true (by first | (with_reducible assumption) | assumption)
          obtain ⟨ad135, e135, hx135_0, hx135_1, hx135_2, hx135_3, hx135_4⟩ := at_T56 HR0_1.out x7_2 p135 q135
          cases e135
          replace hx135_0 := (HB.out.cell (World.block_lt_of_cell? w _ hx135_0)).trans hx135_0
          replace hx135_1 := (HB.out.cell (World.block_lt_of_cell? w _ hx135_1)).trans hx135_1
          replace hx135_2 := (HB.out.cell (World.block_lt_of_cell? w _ hx135_2)).trans hx135_2
          replace hx135_3 := (HB.out.cell (World.block_lt_of_cell? w _ hx135_3)).trans hx135_3
          replace hx135_4 := (HB.out.cell (World.block_lt_of_cell? w _ hx135_4)).trans hx135_4
          replace p135 := eq_true p135
          replace q135 := eq_true q135
          try go_wp2_with (first | ((with_reducible refine gc (f := 115) rfl ?_); refine gl 50 Try.func115 #[.int .i64 ((rd_T56 l0_1 x7_2).f0), .int .i64 a1] ?_; (with_reducible refine (spec_l1Under.calls k2 ((rd_T56 l0_1 x7_2).f0) a1 true _ A35.out).mono ?_); rintro e w' ⟨rfl, ⟨nd, rfl⟩⟩; refine ⟨_, rfl, ?_⟩; (try (rw [drewN_self wr]; generalize hq_ : World.drewN wr _ = wr; have n0_ : Aside0 (Kd.R k36 36 wr w.heap.size (fun _ => True) u129000 x129000_1) := ⟨by rw [← hq_]; exact (rl HO_129000.out)⟩; have n1_ : Aside0 (Kd.R k56 56 wr w.heap.size (fun _ => True) u129001 x129001_2) := ⟨by rw [← hq_]; exact (rl HO_129001.out)⟩; have n2_ : Aside0 (wr.heap[gb120]? = some (.cells #[.slice A0_0 l0_0.length c0_0, .slice (some ad135) l0_1.length c0_1] 34 (0, 0))) := ⟨by rw [← hq_]; exact (bf BK120.out)⟩; have n3_ : Aside0 (wr.heap[gb121]? = some (.cells #[.slice none 0 0, .slice none 0 0] 34 (0, 0))) := ⟨by rw [← hq_]; exact (bf BK121.out)⟩; have n4_ : Aside0 (wr.heap[gb128]? = some (.cells #[u129000, u129001] 34 (0, 0))) := ⟨by rw [← hq_]; exact (bf BK128.out)⟩; have n5_ : Aside0 (Below w.heap.size w wr) := ⟨by rw [← hq_]; exact (bs HB.out)⟩; clear HO_129000 HO_129001 BK120 BK121 BK128 HB hq_; have HO_129000 := n0_; have HO_129001 := n1_; have BK120 := n2_; have BK121 := n3_; have BK128 := n4_; have HB := n5_; clear n0_ n1_ n2_ n3_ n4_ n5_))))
          replace HO_129000 := rd_ HO_129000
          replace HO_129001 := rd_ HO_129001
          replace BK120 := bd BK120
          replace BK121 := bd BK121
          replace BK128 := bd BK128
          replace HB := hd HB
          have p137 : 0 ≤ (x7_2 : Int) := of_decide_eq_true (by first | (with_reducible assumption) | assumption)
          have q137 : x7_2 < (l0_1.length : Int) := of_decide_eq_true (by first | (with_reducible assumption) | assumption)
          obtain ⟨ad137, e137, hx137_0, hx137_1, hx137_2, hx137_3, hx137_4⟩ := at_T56 HR0_1.out x7_2 p137 q137
          have hw137_4 := hx137_4
          have hw137_3 := hx137_3
          have hw137_2 := hx137_2
          have hw137_1 := hx137_1
          have hw137_0 := hx137_0
          obtain rfl : ad135 = ad137 := (by injection e137)
          replace hx137_0 := (HB.out.cell (World.block_lt_of_cell? w _ hx137_0)).trans hx137_0
          replace hx137_1 := (HB.out.cell (World.block_lt_of_cell? w _ hx137_1)).trans hx137_1
          replace hx137_2 := (HB.out.cell (World.block_lt_of_cell? w _ hx137_2)).trans hx137_2
          replace hx137_3 := (HB.out.cell (World.block_lt_of_cell? w _ hx137_3)).trans hx137_3
          replace hx137_4 := (HB.out.cell (World.block_lt_of_cell? w _ hx137_4)).trans hx137_4
          replace p137 := eq_true p137
          replace q137 := eq_true q137
          refine start_ (n := 11) (S := fun w' => w'.cell? ⟨gb128, 0, none⟩ = some (u129000) ∧ w'.cell? ⟨gb128, 1, none⟩ = some (u129001) ∧ w'.cell? ⟨gb120, 0, none⟩ = some (.slice A0_0 l0_0.length c0_0) ∧ w'.cell? ⟨gb120, 1, none⟩ = some (.slice (some ad135) l0_1.length c0_1) ∧ w'.cell? (ad135.add ((x7_2).toNat * 5)) = some (.int .i64 ((rd_T56 l0_1 x7_2).f0)) ∧ w'.cell? ⟨(ad135.add ((x7_2).toNat * 5)).block, (ad135.add ((x7_2).toNat * 5)).off + 1, none⟩ = some (.int .i64 ((rd_T56 l0_1 x7_2).f1.f0)) ∧ w'.cell? ⟨(ad135.add ((x7_2).toNat * 5)).block, (ad135.add ((x7_2).toNat * 5)).off + 2, none⟩ = some (.int .i64 ((rd_T56 l0_1 x7_2).f1.f1)) ∧ w'.cell? ⟨(ad135.add ((x7_2).toNat * 5)).block, (ad135.add ((x7_2).toNat * 5)).off + 3, none⟩ = some (.int .i64 ((rd_T56 l0_1 x7_2).f2.f0)) ∧ w'.cell? ⟨(ad135.add ((x7_2).toNat * 5)).block, (ad135.add ((x7_2).toNat * 5)).off + 4, none⟩ = some (.int .i64 ((rd_T56 l0_1 x7_2).f2.f1))) (ds := [10]) #[false, false, false, false, false, false, false, false, false, false, false] (by kernel_rfl) rfl rfl ⟨(blk_cell BK128.out 0).trans rfl, (blk_cell BK128.out 1).trans rfl, (blk_cell BK120.out 0).trans rfl, (blk_cell BK120.out 1).trans rfl, ((HB.out.cell (World.block_lt_of_cell? w _ hw137_0)).trans hw137_0), ((HB.out.cell (World.block_lt_of_cell? w _ hw137_1)).trans hw137_1), ((HB.out.cell (World.block_lt_of_cell? w _ hw137_2)).trans hw137_2), ((HB.out.cell (World.block_lt_of_cell? w _ hw137_3)).trans hw137_3), ((HB.out.cell (World.block_lt_of_cell? w _ hw137_4)).trans hw137_4)⟩ (fun hHeld => ?_); refine with_tabW spec_l2View.tab11 spec_l2View.bits11 (fun HT_ HW_ => ?_)
          generalize wr.drew = w41 at HO_129000 HO_129001 BK120 BK121 BK128 HB hx137_0 hx137_1 hx137_2 hx137_3 hx137_4 hHeld ⊢
          refine pu 0 51 ?_
          refine pu 2 53 ?_
          refine pu 4 55 ?_
          refine tk 1 52 ?_
          refine tk 3 54 ?_
          refine pu 5 56 ?_
          refine tk 6 57 ?_
          refine one_ (i := 7) (N := some 58) #[true, true, true, true, true, true, true, true, false, false, false] rfl rfl (one_of HT_.out (by kernel_rfl)) (by decide) (fun K hK => ?_)
          refine value_ (w1 := ?_) (v := ?_) (by rfl) rfl ?_ ?_
          rotate_left 2
          ·go_simp
           constructor
           ·rfl
           ·rfl
          refine hK.out _ _ ⟨(blk_cell (blk_alloc BK128.out _) 0).trans rfl, (blk_cell (blk_alloc BK128.out _) 1).trans rfl, (blk_cell (blk_alloc BK120.out _) 0).trans rfl, (blk_cell (blk_alloc BK120.out _) 1).trans rfl, (World.cell?_alloc_lt _ _ _ (World.block_lt_of_cell? _ _ (((HB.out.cell (World.block_lt_of_cell? w _ hw137_0)).trans hw137_0)))).trans (((HB.out.cell (World.block_lt_of_cell? w _ hw137_0)).trans hw137_0)), (World.cell?_alloc_lt _ _ _ (World.block_lt_of_cell? _ _ (((HB.out.cell (World.block_lt_of_cell? w _ hw137_1)).trans hw137_1)))).trans (((HB.out.cell (World.block_lt_of_cell? w _ hw137_1)).trans hw137_1)), (World.cell?_alloc_lt _ _ _ (World.block_lt_of_cell? _ _ (((HB.out.cell (World.block_lt_of_cell? w _ hw137_2)).trans hw137_2)))).trans (((HB.out.cell (World.block_lt_of_cell? w _ hw137_2)).trans hw137_2)), (World.cell?_alloc_lt _ _ _ (World.block_lt_of_cell? _ _ (((HB.out.cell (World.block_lt_of_cell? w _ hw137_3)).trans hw137_3)))).trans (((HB.out.cell (World.block_lt_of_cell? w _ hw137_3)).trans hw137_3)), (World.cell?_alloc_lt _ _ _ (World.block_lt_of_cell? _ _ (((HB.out.cell (World.block_lt_of_cell? w _ hw137_4)).trans hw137_4)))).trans (((HB.out.cell (World.block_lt_of_cell? w _ hw137_4)).trans hw137_4))⟩ (fun hHeld => ?_)
          clear hK K
          refine nrm 58 ?_
          refine one_ (i := 8) (N := some 59) #[true, true, true, true, true, true, true, true, true, false, false] rfl rfl (one_of HT_.out (by kernel_rfl)) (by decide) (fun K hK => ?_)
          refine Kd.R_append_step k56 (w0 := w) w.heap.size (by rfl) (.tmp 52) (.tmp 58) 32 56 (.agg #[(.int .i64 0), (.int .i64 0), (.int .i64 0), (.int .i64 0), (.int .i64 0)]) 40 rfl Try.underlying32 info56 rfl (by decide) (by omega) u129001 x129001_2 (⟨(rd_T56 l0_1 x7_2).f0, (⟨(rd_T56 l0_1 x7_2).f1.f0, (rd_T56 l0_1 x7_2).f1.f1⟩ : S36), (⟨(rd_T56 l0_1 x7_2).f2.f0, (rd_T56 l0_1 x7_2).f2.f1⟩ : S36)⟩ : S56) [.int .i64 ((rd_T56 l0_1 x7_2).f0), .int .i64 ((rd_T56 l0_1 x7_2).f1.f0), .int .i64 ((rd_T56 l0_1 x7_2).f1.f1), .int .i64 ((rd_T56 l0_1 x7_2).f2.f0), .int .i64 ((rd_T56 l0_1 x7_2).f2.f1)] (fun _ => True) (fun _ => False) rfl rfl ?aP (fun _ hk => hk.elim) ?aF ?aO ?aB ?aS ?aL ?_
          (case aP => exact k56_mkM _ _ _ (⟨(rd_T56 l0_1 x7_2).f0, (⟨(rd_T56 l0_1 x7_2).f1.f0, (rd_T56 l0_1 x7_2).f1.f1⟩ : S36), (⟨(rd_T56 l0_1 x7_2).f2.f0, (rd_T56 l0_1 x7_2).f2.f1⟩ : S36)⟩ : S56))
          (case aB => exact (bs HB.out))
          (case aF => exact (fun _ _ => trivial))
          (case aO => exact (rl HO_129001.out))
          (case aS => exact (below_size (bs HB.out)))
          (case aL => have := LMc37.out; omega)
          intro v139 w42 ho hb hg hat
          rw [← Ny138.out] at ho
          replace HO_129000 := Aside0.mk (Kd.R_over' (rl HO_129000.out) (Kd.R_typed (rl HO_129001.out)) (by decide) hg)
          replace BK120 := gr BK120 HO_129001 hg
          replace BK121 := gr BK121 HO_129001 hg
          replace BK128 := gr BK128 HO_129001 hg
          replace HB := Aside0.mk (hb)
          have HO140 := Aside0.mk (ho)
          clear HO_129001
          clear ho hb hg hat
          obtain ⟨Ao43, co43, eo43⟩ := Kd.R_slice HO140.out
          (first | subst eo43 | (injection eo43 with f1_ f2_ f3_; have f4_ := f1_.symm; have f5_ := f3_.symm; clear f1_ f2_ f3_; subst f4_; subst f5_))
          refine hK.out _ _ ⟨(blk_cell BK128.out 0).trans rfl, (blk_cell BK128.out 1).trans rfl, (blk_cell BK120.out 0).trans rfl, (blk_cell BK120.out 1).trans rfl, ((HB.out.cell (World.block_lt_of_cell? w _ hw137_0)).trans hw137_0), ((HB.out.cell (World.block_lt_of_cell? w _ hw137_1)).trans hw137_1), ((HB.out.cell (World.block_lt_of_cell? w _ hw137_2)).trans hw137_2), ((HB.out.cell (World.block_lt_of_cell? w _ hw137_3)).trans hw137_3), ((HB.out.cell (World.block_lt_of_cell? w _ hw137_4)).trans hw137_4)⟩ (fun hHeld => ?_)
          clear hK K
          refine nrm 59 ?_
          refine pu 9 60 ?_
          refine last_ (i := 10) (N := none) #[true, true, true, true, true, true, true, true, true, true, true] rfl rfl (one_of HT_.out (by kernel_rfl)) (by decide) (fun K hK => ?_)
          have hs44 : w42.cell? ⟨gb128, 1, none⟩ = some (u129001) := (blk_cell BK128.out 1).trans rfl
          have hfs44 := blk_frozen BK128.out 1
          have hns44_0 := NB120_128.out
          have hns44_1 := NB121_128.out
          have hms44_0 := NB128_120.out
          have hms44_1 := NB128_121.out
          refine skip_ (w1 := ?_) (by rfl) rfl ?_ ?_
          rotate_left
          ·go_simp
           rfl
          refine hK.out _ _ ?_
          clear hK K
          refine done_ (done_of HT_.out (by kernel_rfl)) ?_
          try go_wp2
          go_roundg k2
          case measure => have := HK1.out; have := HK2.out; omega
          case rel => exact ⟨(wrap64 (x7_2 + 1)), (y138), (.slice Ao43 y138.length co43), (by first | rfl | (simp; done) | (simp [*]; done)), H', ⟨by have := HK1.out; have := HK2.out; omega⟩, ⟨Kd.R_mono (rt HO_129000.out BK128.out (by decide)) (fun _ hk => trivial)⟩, ⟨Kd.R_mono (rt HO140.out BK128.out (by decide)) (fun _ hk => trivial)⟩, ⟨bf BK120.out⟩, ⟨bf BK121.out⟩, ⟨by (with_reducible repeat (first | refine blk_drewN ?_ _ | refine blk_drew ?_ | refine blk_alloc ?_ _)); refine blk_put (cs := #[u129000, u129001]) ?_ 1 _ rfl; exact bf BK128.out⟩, ⟨bs HB.out⟩⟩
         ·rw [if_neg c37] at H
          exact absurd H (by simp)
        ·replace c36 := Bool.eq_false_iff.mpr c36
         subst c36
         have H1 : (spec_l2View.l1 k2 a1 (wrap64 (x7_2 + 1)) l0_0 l0_1 x129000_1 x129001_2) = some (r1, r2) := by rw [if_neg (show ¬ (false = true) by decide)] at H; exact H
         clear H
         have H := H1
         clear H1
         have H' := Aside0.mk H
         clear H
         have hnb45 := NB120_121.out
         have hnc45 := NB121_120.out
         have hnb46 := NB120_128.out
         have hnc46 := NB128_120.out
         obtain ⟨hcz47_0, hcz47_1⟩ := bc2 (w := wr) BK120.out
         have hfz47 := blk_frozen BK120.out
         have p135 : 0 ≤ (x7_2 : Int) := of_decide_eq_true (by first | (with_reducible assumption) | assumption)
         have q135 : x7_2 < (l0_1.length : Int) := of_decide_eq_true (by first | (with_reducible assumption) | assumption)
         obtain ⟨ad135, e135, hx135_0, hx135_1, hx135_2, hx135_3, hx135_4⟩ := at_T56 HR0_1.out x7_2 p135 q135
         cases e135
         replace hx135_0 := (HB.out.cell (World.block_lt_of_cell? w _ hx135_0)).trans hx135_0
         replace hx135_1 := (HB.out.cell (World.block_lt_of_cell? w _ hx135_1)).trans hx135_1
         replace hx135_2 := (HB.out.cell (World.block_lt_of_cell? w _ hx135_2)).trans hx135_2
         replace hx135_3 := (HB.out.cell (World.block_lt_of_cell? w _ hx135_3)).trans hx135_3
         replace hx135_4 := (HB.out.cell (World.block_lt_of_cell? w _ hx135_4)).trans hx135_4
         replace p135 := eq_true p135
         replace q135 := eq_true q135
         go_wp2_with (first | ((with_reducible refine gc (f := 115) rfl ?_); refine gl 50 Try.func115 #[.int .i64 ((rd_T56 l0_1 x7_2).f0), .int .i64 a1] ?_; (with_reducible refine (spec_l1Under.calls k2 ((rd_T56 l0_1 x7_2).f0) a1 false _ A35.out).mono ?_); rintro e w' ⟨rfl, ⟨nd, rfl⟩⟩; refine ⟨_, rfl, ?_⟩))
         go_roundg k2
         case measure => have := HK1.out; have := HK2.out; omega
         case rel => exact ⟨(wrap64 (x7_2 + 1)), (x129001_2), (u129001), (by first | rfl | (simp; done) | (simp [*]; done)), H', ⟨by have := HK1.out; have := HK2.out; omega⟩, ⟨rl HO_129000.out⟩, ⟨rl HO_129001.out⟩, ⟨bf BK120.out⟩, ⟨bf BK121.out⟩, ⟨bf BK128.out⟩, ⟨bs HB.out⟩⟩
       ·rw [if_neg c34] at H
        exact absurd H (by simp)
      ·rw [if_neg c33] at H
       have c33b0 : decide (x7_2 < (l0_1.length : Int)) = false := decide_eq_false c33
       clear c33
       simp only [Option.some.injEq, Prod.mk.injEq] at H
       obtain ⟨rfl, rfl⟩ := H
       have hnb48 := NB120_121.out
       have hnc48 := NB121_120.out
       have hnb49 := NB120_128.out
       have hnc49 := NB128_120.out
       obtain ⟨hcz50_0, hcz50_1⟩ := bc2 (w := wr) BK120.out
       have hfz50 := blk_frozen BK120.out
       have hnb51 := NB128_121.out
       have hnc51 := NB121_128.out
       obtain ⟨hcz52_0, hcz52_1⟩ := bc2 (w := wr) BK128.out
       have hfz52 := blk_frozen BK128.out
       obtain ⟨Ao53, co53, eo53⟩ := Kd.R_slice HO_129000.out
       subst eo53
       obtain ⟨hcz54_0, hcz54_1⟩ := bc2 (w := wr) BK121.out
       have hfz54 := blk_frozen BK121.out
       obtain ⟨Ao55, co55, eo55⟩ := Kd.R_slice HO_129001.out
       subst eo55
       go_wp2
       refine bodyPost_ret (results_cell_row rfl _ _ gb121 34 #[.slice Ao53 x129000_1.length co53, .slice Ao55 x129001_2.length co55] (0, 0) _ rfl (bp BK121.out rfl) Try.underlying34 rfl (by kernel_rfl)) rfl ?_
       exact ⟨_, _, by first | rfl | (simp [*, errW_none, errW_some] <;> rfl), Kd.R_mono (rt HO_129000.out BK121.out (by decide)) (fun _ hk => trivial), Kd.R_mono (rt HO_129001.out BK121.out (by decide)) (fun _ hk => trivial), bs HB.out⟩

/-! ### spec_GraphView: function 35 -/
def spec_GraphView.f (k : Nat) (l0_0 : List (S36)) (l0_1 : List (S56)) (a1 : Int) : Option ((List (S36)) × (List (S56))) := (spec_GraphOk.f k l0_0 l0_1).bind fun t143 => (if t143 = true then ((spec_LabelOk.f a1).bind fun t144 => (if t144 = true then ((spec_l2View.f k l0_0 l0_1 a1).bind fun bt145 => (some (bt145.1, bt145.2))) else (some (([] : List (S36)), ([] : List (S56)))))) else (some (([] : List (S36)), ([] : List (S56)))))
set_option maxHeartbeats 8000000 in
set_option maxRecDepth 100000 in
theorem spec_GraphView.calls (k : Nat) (A0_0 : Option Addr) (c0_0 : Nat) (l0_0 : List (S36)) (A0_1 : Option Addr) (c0_1 : Nat) (l0_1 : List (S56)) (a1 : Int) (r1 : List (S36)) (r2 : List (S56)) (w : World) (hr0_0 : Kd.C k36 w A0_0 l0_0.length l0_0) (hc0_0 : l0_0.length ≤ c0_0) (hr0_1 : Kd.C k56 w A0_1 l0_1.length l0_1) (hc0_1 : l0_1.length ≤ c0_1) (h : spec_GraphView.f k l0_0 l0_1 a1 = some (r1, r2)) :
  Calls Try.prog 35 #[.agg #[.slice A0_0 l0_0.length c0_0, .slice A0_1 l0_1.length c0_1], .int .i64 a1] w fun e w' => ∃ v0_ v1_ : Value, e = .returned (.agg #[v0_, v1_]) ∧ Kd.R k36 36 w' w.heap.size (fun _ => True) v0_ r1 ∧ Kd.R k56 56 w' w.heap.size (fun _ => True) v1_ r2 ∧ Below w.heap.size w w' := by
 have hu34 := Try.underlying34
 have HR0_0 := Aside0.mk hr0_0
 have HC0_0 := Aside0.mk hc0_0
 clear hr0_0 hc0_0
 have HR0_1 := Aside0.mk hr0_1
 have HC0_1 := Aside0.mk hc0_1
 clear hr0_1 hc0_1
 have HB := Aside0.mk (Below.refl w.heap.size w)
 have H := h; unfold spec_GraphView.f at H
 clear h
 replace H := Option.bind_eq_some_iff.mp H
 obtain ⟨t143, A30, H⟩ := H
 try dsimp -simprocs only at H
 have A3 := Aside0.mk A30
 clear A30
 by_cases c4 : t143 = true
 ·subst c4
  have H1 : ((spec_LabelOk.f a1).bind fun t144 => (if t144 = true then ((spec_l2View.f k l0_0 l0_1 a1).bind fun bt145 => (some (bt145.1, bt145.2))) else (some (([] : List (S36)), ([] : List (S56)))))) = some (r1, r2) := by rw [if_pos rfl] at H; exact H
  clear H
  have H := H1
  clear H1
  replace H := Option.bind_eq_some_iff.mp H
  obtain ⟨t144, A50, H⟩ := H
  try dsimp -simprocs only at H
  have A5 := Aside0.mk A50
  clear A50
  by_cases c6 : t144 = true
  ·subst c6
   have H1 : ((spec_l2View.f k l0_0 l0_1 a1).bind fun bt145 => (some (bt145.1, bt145.2))) = some (r1, r2) := by rw [if_pos rfl] at H; exact H
   clear H
   have H := H1
   clear H1
   replace H := Option.bind_eq_some_iff.mp H
   obtain ⟨⟨t145, t148⟩, A70, H⟩ := H
   try dsimp -simprocs only at H
   have A7 := Aside0.mk A70
   clear A70
   simp only [Option.some.injEq, Prod.mk.injEq] at H
   obtain ⟨rfl, rfl⟩ := H
   go_enter Try.func35, Try.ntmps35
   go_wp2_with (first | ((with_reducible refine gd (N := 2) rfl ?_); refine bx 2 (cs := #[.slice A0_0 l0_0.length c0_0, .slice A0_1 l0_1.length c0_1]) (t := 34) ?_; intro gb141 hg w8 hbox hb; have BK141 := Aside0.mk (hbox); have GW141 := gwb HB hg; replace HB := hs HB hb; clear hb hbox hg) | ((with_reducible refine gd (N := 4) rfl ?_); refine bx 4 (cs := #[.slice none 0 0, .slice none 0 0]) (t := 34) ?_; intro gb142 hg w9 hbox hb; have BK142 := Aside0.mk (hbox); have GW142 := gwb HB hg; replace HB := hs HB hb; have NB141_142 := nq BK141 hg; have NB142_141 := nq' BK141 hg; replace BK141 := bb BK141 hb rfl; clear hb hbox hg; have hnb10 := NB141_142.out; have hnc10 := NB142_141.out; obtain ⟨hcz11_0, hcz11_1⟩ := bc2 (w := w9) BK141.out; have hfz11 := blk_frozen BK141.out) | ((with_reducible refine gc (f := 33) rfl ?_); refine gl 6 Try.func33 #[.agg #[.slice A0_0 l0_0.length c0_0, .slice A0_1 l0_1.length c0_1]] ?_; (with_reducible refine (spec_GraphOk.calls k _ _ l0_0 _ _ l0_1 true _ ?side1 ?side2 ?side3 ?side4 A3.out).mono ?_); (case side1 => exact Kd.C_below HR0_0.out (bs HB.out)); (case side2 => exact HC0_0.out); (case side3 => exact Kd.C_below HR0_1.out (bs HB.out)); (case side4 => exact HC0_1.out); rintro e w12 ⟨rfl, hb⟩; refine ⟨_, rfl, ?_⟩; replace BK141 := bb BK141 hb rfl; replace BK142 := bb BK142 hb rfl; replace HB := hs HB hb; (try clear hb)) | (go_at_call 83; (with_reducible refine (spec_LabelOk.calls a1 true _ A5.out).mono ?_); rintro e w' ⟨rfl, ⟨nd, rfl⟩⟩; (try (rw [drewN_self w12]; generalize hq_ : World.drewN w12 _ = w12; have n0_ : Aside0 (w12.heap[gb141]? = some (.cells #[.slice A0_0 l0_0.length c0_0, .slice A0_1 l0_1.length c0_1] 34 (0, 0))) := ⟨by rw [← hq_]; exact (bf BK141.out)⟩; have n1_ : Aside0 (w12.heap[gb142]? = some (.cells #[.slice none 0 0, .slice none 0 0] 34 (0, 0))) := ⟨by rw [← hq_]; exact (bf BK142.out)⟩; have n2_ : Aside0 (Below w.heap.size w w12) := ⟨by rw [← hq_]; exact (bs HB.out)⟩; clear BK141 BK142 HB hq_; have BK141 := n0_; have BK142 := n1_; have HB := n2_; clear n0_ n1_ n2_)); obtain ⟨hcz13_0, hcz13_1⟩ := bc2 (w := w12) BK141.out; have hfz13 := blk_frozen BK141.out) | ((with_reducible refine gc (f := 84) rfl ?_); refine gl 16 Try.func84 #[.agg #[.slice A0_0 l0_0.length c0_0, .slice A0_1 l0_1.length c0_1], .int .i64 a1] ?_; (with_reducible refine (spec_l2View.calls k _ _ l0_0 _ _ l0_1 a1 t145 t148 _ ?side1 ?side2 ?side3 ?side4 A7.out).mono ?_); (case side1 => exact Kd.C_below HR0_0.out (bs HB.out)); (case side2 => exact HC0_0.out); (case side3 => exact Kd.C_below HR0_1.out (bs HB.out)); (case side4 => exact HC0_1.out); rintro e w14 ⟨v146, v149, rfl, ho0, ho1, hb⟩; refine ⟨_, rfl, ?_⟩; have HO147 := Aside0.mk (Kd.R_lower ho0 (below_size (bs HB.out))); have HO150 := Aside0.mk (Kd.R_lower ho1 (below_size (bs HB.out))); replace BK141 := bb BK141 hb rfl; replace BK142 := bb BK142 hb rfl; replace HB := hs HB hb; (try clear ho0 ho1 hb); obtain ⟨Ao15, co15, eo15⟩ := Kd.R_slice HO147.out; subst eo15; obtain ⟨hcz16_0, hcz16_1⟩ := bc2 (w := w14) BK142.out; have hfz16 := blk_frozen BK142.out; obtain ⟨Ao17, co17, eo17⟩ := Kd.R_slice HO150.out; subst eo17))
   refine bodyPost_ret (results_cell_row rfl _ _ gb142 34 #[.slice Ao15 t145.length co15, .slice Ao17 t148.length co17] (0, 0) _ rfl (bp BK142.out rfl) Try.underlying34 rfl (by kernel_rfl)) rfl ?_
   exact ⟨_, _, by first | rfl | (simp [*, errW_none, errW_some] <;> rfl), Kd.R_mono (rt HO147.out BK142.out (by decide)) (fun _ hk => trivial), Kd.R_mono (rt HO150.out BK142.out (by decide)) (fun _ hk => trivial), bs HB.out⟩
  ·replace c6 := Bool.eq_false_iff.mpr c6
   subst c6
   have H1 : (some (([] : List (S36)), ([] : List (S56)))) = some (r1, r2) := by rw [if_neg (show ¬ (false = true) by decide)] at H; exact H
   clear H
   have H := H1
   clear H1
   simp only [Option.some.injEq, Prod.mk.injEq] at H
   obtain ⟨rfl, rfl⟩ := H
   go_enter Try.func35, Try.ntmps35
   go_wp2_with (first | ((with_reducible refine gd (N := 2) rfl ?_); refine bx 2 (cs := #[.slice A0_0 l0_0.length c0_0, .slice A0_1 l0_1.length c0_1]) (t := 34) ?_; intro gb141 hg w18 hbox hb; have BK141 := Aside0.mk (hbox); have GW141 := gwb HB hg; replace HB := hs HB hb; clear hb hbox hg) | ((with_reducible refine gd (N := 4) rfl ?_); refine bx 4 (cs := #[.slice none 0 0, .slice none 0 0]) (t := 34) ?_; intro gb142 hg w19 hbox hb; have BK142 := Aside0.mk (hbox); have GW142 := gwb HB hg; replace HB := hs HB hb; have NB141_142 := nq BK141 hg; have NB142_141 := nq' BK141 hg; replace BK141 := bb BK141 hb rfl; clear hb hbox hg; have hnb20 := NB141_142.out; have hnc20 := NB142_141.out; obtain ⟨hcz21_0, hcz21_1⟩ := bc2 (w := w19) BK141.out; have hfz21 := blk_frozen BK141.out) | ((with_reducible refine gc (f := 33) rfl ?_); refine gl 6 Try.func33 #[.agg #[.slice A0_0 l0_0.length c0_0, .slice A0_1 l0_1.length c0_1]] ?_; (with_reducible refine (spec_GraphOk.calls k _ _ l0_0 _ _ l0_1 true _ ?side1 ?side2 ?side3 ?side4 A3.out).mono ?_); (case side1 => exact Kd.C_below HR0_0.out (bs HB.out)); (case side2 => exact HC0_0.out); (case side3 => exact Kd.C_below HR0_1.out (bs HB.out)); (case side4 => exact HC0_1.out); rintro e w22 ⟨rfl, hb⟩; refine ⟨_, rfl, ?_⟩; replace BK141 := bb BK141 hb rfl; replace BK142 := bb BK142 hb rfl; replace HB := hs HB hb; (try clear hb)) | (go_at_call 83; (with_reducible refine (spec_LabelOk.calls a1 false _ A5.out).mono ?_); rintro e w' ⟨rfl, ⟨nd, rfl⟩⟩; (try (rw [drewN_self w22]; generalize hq_ : World.drewN w22 _ = w22; have n0_ : Aside0 (w22.heap[gb141]? = some (.cells #[.slice A0_0 l0_0.length c0_0, .slice A0_1 l0_1.length c0_1] 34 (0, 0))) := ⟨by rw [← hq_]; exact (bf BK141.out)⟩; have n1_ : Aside0 (w22.heap[gb142]? = some (.cells #[.slice none 0 0, .slice none 0 0] 34 (0, 0))) := ⟨by rw [← hq_]; exact (bf BK142.out)⟩; have n2_ : Aside0 (Below w.heap.size w w22) := ⟨by rw [← hq_]; exact (bs HB.out)⟩; clear BK141 BK142 HB hq_; have BK141 := n0_; have BK142 := n1_; have HB := n2_; clear n0_ n1_ n2_)); obtain ⟨hcz23_0, hcz23_1⟩ := bc2 (w := w22) BK142.out; have hfz23 := blk_frozen BK142.out))
   refine bodyPost_ret (results_cell_row rfl _ _ gb142 34 #[.slice none 0 0, .slice none 0 0] (0, 0) _ rfl (bp BK142.out rfl) Try.underlying34 rfl (by kernel_rfl)) rfl ?_
   exact ⟨_, _, by first | rfl | (simp [*, errW_none, errW_some] <;> rfl), by first | exact Kd.R_nil _ _ _ _ _ | exact Kd.N_nil _ _ _ _ _ | exact Kd.V_nil _ _ _ _ _ | exact Kd.Q_nil _ _ _ _ _ | exact Kd.S_nil _ _ _ _ _, by first | exact Kd.R_nil _ _ _ _ _ | exact Kd.N_nil _ _ _ _ _ | exact Kd.V_nil _ _ _ _ _ | exact Kd.Q_nil _ _ _ _ _ | exact Kd.S_nil _ _ _ _ _, bs HB.out⟩
 ·replace c4 := Bool.eq_false_iff.mpr c4
  subst c4
  have H1 : (some (([] : List (S36)), ([] : List (S56)))) = some (r1, r2) := by rw [if_neg (show ¬ (false = true) by decide)] at H; exact H
  clear H
  have H := H1
  clear H1
  simp only [Option.some.injEq, Prod.mk.injEq] at H
  obtain ⟨rfl, rfl⟩ := H
  go_enter Try.func35, Try.ntmps35
  go_wp2_with (first | ((with_reducible refine gd (N := 2) rfl ?_); refine bx 2 (cs := #[.slice A0_0 l0_0.length c0_0, .slice A0_1 l0_1.length c0_1]) (t := 34) ?_; intro gb141 hg w24 hbox hb; have BK141 := Aside0.mk (hbox); have GW141 := gwb HB hg; replace HB := hs HB hb; clear hb hbox hg) | ((with_reducible refine gd (N := 4) rfl ?_); refine bx 4 (cs := #[.slice none 0 0, .slice none 0 0]) (t := 34) ?_; intro gb142 hg w25 hbox hb; have BK142 := Aside0.mk (hbox); have GW142 := gwb HB hg; replace HB := hs HB hb; have NB141_142 := nq BK141 hg; have NB142_141 := nq' BK141 hg; replace BK141 := bb BK141 hb rfl; clear hb hbox hg; have hnb26 := NB141_142.out; have hnc26 := NB142_141.out; obtain ⟨hcz27_0, hcz27_1⟩ := bc2 (w := w25) BK141.out; have hfz27 := blk_frozen BK141.out) | ((with_reducible refine gc (f := 33) rfl ?_); refine gl 6 Try.func33 #[.agg #[.slice A0_0 l0_0.length c0_0, .slice A0_1 l0_1.length c0_1]] ?_; (with_reducible refine (spec_GraphOk.calls k _ _ l0_0 _ _ l0_1 false _ ?side1 ?side2 ?side3 ?side4 A3.out).mono ?_); (case side1 => exact Kd.C_below HR0_0.out (bs HB.out)); (case side2 => exact HC0_0.out); (case side3 => exact Kd.C_below HR0_1.out (bs HB.out)); (case side4 => exact HC0_1.out); rintro e w28 ⟨rfl, hb⟩; refine ⟨_, rfl, ?_⟩; replace BK141 := bb BK141 hb rfl; replace BK142 := bb BK142 hb rfl; replace HB := hs HB hb; (try clear hb); obtain ⟨hcz29_0, hcz29_1⟩ := bc2 (w := w28) BK142.out; have hfz29 := blk_frozen BK142.out))
  refine bodyPost_ret (results_cell_row rfl _ _ gb142 34 #[.slice none 0 0, .slice none 0 0] (0, 0) _ rfl (bp BK142.out rfl) Try.underlying34 rfl (by kernel_rfl)) rfl ?_
  exact ⟨_, _, by first | rfl | (simp [*, errW_none, errW_some] <;> rfl), by first | exact Kd.R_nil _ _ _ _ _ | exact Kd.N_nil _ _ _ _ _ | exact Kd.V_nil _ _ _ _ _ | exact Kd.Q_nil _ _ _ _ _ | exact Kd.S_nil _ _ _ _ _, by first | exact Kd.R_nil _ _ _ _ _ | exact Kd.N_nil _ _ _ _ _ | exact Kd.V_nil _ _ _ _ _ | exact Kd.Q_nil _ _ _ _ _ | exact Kd.S_nil _ _ _ _ _, bs HB.out⟩

/-! ### impl_LabelOk: function 46 -/
def impl_LabelOk.f (a0 : Int) : Option (Bool) := if 0 ≤ a0 then (some (decide (a0 ≤ 7))) else (some false)
set_option maxHeartbeats 8000000 in
set_option maxRecDepth 100000 in
theorem impl_LabelOk.calls (a0 : Int) (r : Bool) (w : World) (h : impl_LabelOk.f a0 = some r) :
  Calls Try.prog 46 #[.int .i64 a0] w fun e w' => e = .returned (.bool r) ∧ Drawn0 w w' := by
 have H := h; unfold impl_LabelOk.f at H
 clear h
 by_cases c2 : 0 ≤ a0
 ·rw [if_pos c2] at H
  have c2b0 : decide (0 ≤ a0) = true := decide_eq_true c2
  clear c2
  obtain rfl := Option.some.inj H
  go_enter Try.func46, Try.ntmps46
  go_wp2
  go_ret
  exact ⟨by first | rfl | (simp; done) | (simp [*]; done), by repeat (first | exact Drawn0.refl _ | apply Drawn0.step)⟩
 ·rw [if_neg c2] at H
  have c2b0 : decide (0 ≤ a0) = false := decide_eq_false c2
  clear c2
  obtain rfl := Option.some.inj H
  go_enter Try.func46, Try.ntmps46
  go_wp2
  go_ret
  exact ⟨by first | rfl | (simp; done) | (simp [*]; done), by repeat (first | exact Drawn0.refl _ | apply Drawn0.step)⟩

/-! ### impl_letters_under: function 95 -/
def impl_letters_under.f (a0 : Int) (a1 : Int) : Option (Bool) := some ((Go.bits .andNot .u8 a0 a1) == 0)
set_option maxHeartbeats 8000000 in
set_option maxRecDepth 100000 in
theorem impl_letters_under.calls (a0 : Int) (a1 : Int) (r : Bool) (w : World) (h : impl_letters_under.f a0 a1 = some r) :
  Calls Try.prog 95 #[.int .u8 a0, .int .u8 a1] w fun e w' => e = .returned (.bool r) ∧ Drawn0 w w' := by
 have H := h; unfold impl_letters_under.f at H
 clear h
 obtain rfl := Option.some.inj H
 go_enter Try.func95, Try.ntmps95
 go_wp2
 go_ret
 exact ⟨by first | rfl | (simp; done) | (simp [*]; done), by repeat (first | exact Drawn0.refl _ | apply Drawn0.step)⟩

/-! ### impl_LabelUnder: function 47 -/
def impl_LabelUnder.f (a0 : Int) (a1 : Int) : Option (Bool) := (impl_LabelOk.f a0).bind fun t151 => (if t151 = true then ((impl_LabelOk.f a1).bind fun t152 => (if t152 = true then ((impl_letters_under.f ((a0) % 256) ((a1) % 256)).bind fun t153 => (some t153)) else (some false))) else (some false))
set_option maxHeartbeats 8000000 in
set_option maxRecDepth 100000 in
theorem impl_LabelUnder.calls (a0 : Int) (a1 : Int) (r : Bool) (w : World) (h : impl_LabelUnder.f a0 a1 = some r) :
  Calls Try.prog 47 #[.int .i64 a0, .int .i64 a1] w fun e w' => e = .returned (.bool r) ∧ Drawn0 w w' := by
 have H := h; unfold impl_LabelUnder.f at H
 clear h
 replace H := Option.bind_eq_some_iff.mp H
 obtain ⟨t151, A30, H⟩ := H
 try dsimp -simprocs only at H
 have A3 := Aside0.mk A30
 clear A30
 by_cases c4 : t151 = true
 ·subst c4
  have H1 : ((impl_LabelOk.f a1).bind fun t152 => (if t152 = true then ((impl_letters_under.f ((a0) % 256) ((a1) % 256)).bind fun t153 => (some t153)) else (some false))) = some r := by rw [if_pos rfl] at H; exact H
  clear H
  have H := H1
  clear H1
  replace H := Option.bind_eq_some_iff.mp H
  obtain ⟨t152, A50, H⟩ := H
  try dsimp -simprocs only at H
  have A5 := Aside0.mk A50
  clear A50
  by_cases c6 : t152 = true
  ·subst c6
   have H1 : ((impl_letters_under.f ((a0) % 256) ((a1) % 256)).bind fun t153 => (some t153)) = some r := by rw [if_pos rfl] at H; exact H
   clear H
   have H := H1
   clear H1
   replace H := Option.bind_eq_some_iff.mp H
   obtain ⟨t153, A70, H⟩ := H
   try dsimp -simprocs only at H
   have A7 := Aside0.mk A70
   clear A70
   obtain rfl := Option.some.inj H
   go_enter Try.func47, Try.ntmps47
   go_wp2_with (first | ((with_reducible refine gc (f := 46) rfl ?_); refine gl 6 Try.func46 #[.int .i64 a0] ?_; (with_reducible refine (impl_LabelOk.calls a0 true _ A3.out).mono ?_); rintro e w' ⟨rfl, ⟨nd, rfl⟩⟩; refine ⟨_, rfl, ?_⟩) | (go_at_call 46; (with_reducible refine (impl_LabelOk.calls a1 true _ A5.out).mono ?_); rintro e w' ⟨rfl, ⟨nd, rfl⟩⟩) | (go_at_call 95; (with_reducible refine (impl_letters_under.calls ((a0) % 256) ((a1) % 256) t153 _ A7.out).mono ?_); rintro e w' ⟨rfl, ⟨nd, rfl⟩⟩))
   go_ret
   exact ⟨by first | rfl | (simp; done) | (simp [*]; done), by repeat (first | exact Drawn0.refl _ | apply Drawn0.step)⟩
  ·replace c6 := Bool.eq_false_iff.mpr c6
   subst c6
   have H1 : (some false) = some r := by rw [if_neg (show ¬ (false = true) by decide)] at H; exact H
   clear H
   have H := H1
   clear H1
   obtain rfl := Option.some.inj H
   go_enter Try.func47, Try.ntmps47
   go_wp2_with (first | ((with_reducible refine gc (f := 46) rfl ?_); refine gl 6 Try.func46 #[.int .i64 a0] ?_; (with_reducible refine (impl_LabelOk.calls a0 true _ A3.out).mono ?_); rintro e w' ⟨rfl, ⟨nd, rfl⟩⟩; refine ⟨_, rfl, ?_⟩) | (go_at_call 46; (with_reducible refine (impl_LabelOk.calls a1 false _ A5.out).mono ?_); rintro e w' ⟨rfl, ⟨nd, rfl⟩⟩))
   go_ret
   exact ⟨by first | rfl | (simp; done) | (simp [*]; done), by repeat (first | exact Drawn0.refl _ | apply Drawn0.step)⟩
 ·replace c4 := Bool.eq_false_iff.mpr c4
  subst c4
  have H1 : (some false) = some r := by rw [if_neg (show ¬ (false = true) by decide)] at H; exact H
  clear H
  have H := H1
  clear H1
  obtain rfl := Option.some.inj H
  go_enter Try.func47, Try.ntmps47
  go_wp2_with (first | ((with_reducible refine gc (f := 46) rfl ?_); refine gl 6 Try.func46 #[.int .i64 a0] ?_; (with_reducible refine (impl_LabelOk.calls a0 false _ A3.out).mono ?_); rintro e w' ⟨rfl, ⟨nd, rfl⟩⟩; refine ⟨_, rfl, ?_⟩))
  go_ret
  exact ⟨by first | rfl | (simp; done) | (simp [*]; done), by repeat (first | exact Drawn0.refl _ | apply Drawn0.step)⟩

/-! ### impl_NodeOk: function 92 -/
def impl_NodeOk.f (a0_0 : Int) (a0_1 : Int) : Option (Bool) := (impl_LabelOk.f a0_0).bind fun t155 => (if t155 = true then (if 0 ≤ a0_1 then (some (decide (a0_1 ≤ 40))) else (some false)) else (some false))
set_option maxHeartbeats 8000000 in
set_option maxRecDepth 100000 in
theorem impl_NodeOk.calls (a0_0 : Int) (a0_1 : Int) (r : Bool) (w : World) (h : impl_NodeOk.f a0_0 a0_1 = some r) :
  Calls Try.prog 92 #[.agg #[.int .i64 a0_0, .int .i64 a0_1]] w fun e w' => e = .returned (.bool r) ∧ Below w.heap.size w w' := by
 have hu36 := Try.underlying36
 have HB := Aside0.mk (Below.refl w.heap.size w)
 have H := h; unfold impl_NodeOk.f at H
 clear h
 replace H := Option.bind_eq_some_iff.mp H
 obtain ⟨t155, A20, H⟩ := H
 try dsimp -simprocs only at H
 have A2 := Aside0.mk A20
 clear A20
 by_cases c3 : t155 = true
 ·subst c3
  have H1 : (if 0 ≤ a0_1 then (some (decide (a0_1 ≤ 40))) else (some false)) = some r := by rw [if_pos rfl] at H; exact H
  clear H
  have H := H1
  clear H1
  by_cases c4 : 0 ≤ a0_1
  ·rw [if_pos c4] at H
   have c4b0 : decide (0 ≤ a0_1) = true := decide_eq_true c4
   clear c4
   obtain rfl := Option.some.inj H
   go_enter Try.func92, Try.ntmps92
   go_wp2_with (first | ((with_reducible refine gd (N := 1) rfl ?_); refine bx 1 (cs := #[.int .i64 a0_0, .int .i64 a0_1]) (t := 36) ?_; intro gb154 hg w5 hbox hb; have BK154 := Aside0.mk (hbox); have GW154 := gwb HB hg; replace HB := hs HB hb; clear hb hbox hg; obtain ⟨hcz6_0, hcz6_1⟩ := bc2 (w := w5) BK154.out; have hfz6 := blk_frozen BK154.out) | ((with_reducible refine gc (f := 46) rfl ?_); refine gl 5 Try.func46 #[.int .i64 a0_0] ?_; (with_reducible refine (impl_LabelOk.calls a0_0 true _ A2.out).mono ?_); rintro e w' ⟨rfl, ⟨nd, rfl⟩⟩; refine ⟨_, rfl, ?_⟩))
   go_ret
   exact ⟨by first | rfl | (simp [*, errW_none, errW_some] <;> rfl), bs HB.out⟩
  ·rw [if_neg c4] at H
   have c4b0 : decide (0 ≤ a0_1) = false := decide_eq_false c4
   clear c4
   obtain rfl := Option.some.inj H
   go_enter Try.func92, Try.ntmps92
   go_wp2_with (first | ((with_reducible refine gd (N := 1) rfl ?_); refine bx 1 (cs := #[.int .i64 a0_0, .int .i64 a0_1]) (t := 36) ?_; intro gb154 hg w7 hbox hb; have BK154 := Aside0.mk (hbox); have GW154 := gwb HB hg; replace HB := hs HB hb; clear hb hbox hg; obtain ⟨hcz8_0, hcz8_1⟩ := bc2 (w := w7) BK154.out; have hfz8 := blk_frozen BK154.out) | ((with_reducible refine gc (f := 46) rfl ?_); refine gl 5 Try.func46 #[.int .i64 a0_0] ?_; (with_reducible refine (impl_LabelOk.calls a0_0 true _ A2.out).mono ?_); rintro e w' ⟨rfl, ⟨nd, rfl⟩⟩; refine ⟨_, rfl, ?_⟩))
   go_ret
   exact ⟨by first | rfl | (simp [*, errW_none, errW_some] <;> rfl), bs HB.out⟩
 ·replace c3 := Bool.eq_false_iff.mpr c3
  subst c3
  have H1 : (some false) = some r := by rw [if_neg (show ¬ (false = true) by decide)] at H; exact H
  clear H
  have H := H1
  clear H1
  obtain rfl := Option.some.inj H
  go_enter Try.func92, Try.ntmps92
  go_wp2_with (first | ((with_reducible refine gd (N := 1) rfl ?_); refine bx 1 (cs := #[.int .i64 a0_0, .int .i64 a0_1]) (t := 36) ?_; intro gb154 hg w9 hbox hb; have BK154 := Aside0.mk (hbox); have GW154 := gwb HB hg; replace HB := hs HB hb; clear hb hbox hg; obtain ⟨hcz10_0, hcz10_1⟩ := bc2 (w := w9) BK154.out; have hfz10 := blk_frozen BK154.out) | ((with_reducible refine gc (f := 46) rfl ?_); refine gl 5 Try.func46 #[.int .i64 a0_0] ?_; (with_reducible refine (impl_LabelOk.calls a0_0 false _ A2.out).mono ?_); rintro e w' ⟨rfl, ⟨nd, rfl⟩⟩; refine ⟨_, rfl, ?_⟩))
  go_ret
  exact ⟨by first | rfl | (simp [*, errW_none, errW_some] <;> rfl), bs HB.out⟩

/-! ### impl_NodeCode: function 116 -/
def impl_NodeCode.f (a0_0 : Int) (a0_1 : Int) : Option (Int) := (impl_NodeOk.f a0_0 a0_1).bind fun t157 => (if t157 = true then (some (wrap64 ((wrap64 (64 * a0_0)) + a0_1))) else (some (-1)))
set_option maxHeartbeats 8000000 in
set_option maxRecDepth 100000 in
theorem impl_NodeCode.calls (a0_0 : Int) (a0_1 : Int) (r : Int) (w : World) (h : impl_NodeCode.f a0_0 a0_1 = some r) :
  Calls Try.prog 116 #[.agg #[.int .i64 a0_0, .int .i64 a0_1]] w fun e w' => e = .returned (.int .i64 r) ∧ Below w.heap.size w w' := by
 have hu36 := Try.underlying36
 have HB := Aside0.mk (Below.refl w.heap.size w)
 have H := h; unfold impl_NodeCode.f at H
 clear h
 replace H := Option.bind_eq_some_iff.mp H
 obtain ⟨t157, A20, H⟩ := H
 try dsimp -simprocs only at H
 have A2 := Aside0.mk A20
 clear A20
 by_cases c3 : t157 = true
 ·subst c3
  have H1 : (some (wrap64 ((wrap64 (64 * a0_0)) + a0_1))) = some r := by rw [if_pos rfl] at H; exact H
  clear H
  have H := H1
  clear H1
  obtain rfl := Option.some.inj H
  go_enter Try.func116, Try.ntmps116
  go_wp2_with (first | ((with_reducible refine gd (N := 1) rfl ?_); refine bx 1 (cs := #[.int .i64 a0_0, .int .i64 a0_1]) (t := 36) ?_; intro gb156 hg w4 hbox hb; have BK156 := Aside0.mk (hbox); have GW156 := gwb HB hg; replace HB := hs HB hb; clear hb hbox hg; obtain ⟨hcz5_0, hcz5_1⟩ := bc2 (w := w4) BK156.out; have hfz5 := blk_frozen BK156.out) | ((with_reducible refine gc (f := 92) rfl ?_); refine gl 4 Try.func92 #[.agg #[.int .i64 a0_0, .int .i64 a0_1]] ?_; (with_reducible refine (impl_NodeOk.calls a0_0 a0_1 true _ A2.out).mono ?_); rintro e w6 ⟨rfl, hb⟩; refine ⟨_, rfl, ?_⟩; replace BK156 := bb BK156 hb rfl; replace HB := hs HB hb; (try clear hb); obtain ⟨hcz7_0, hcz7_1⟩ := bc2 (w := w6) BK156.out; have hfz7 := blk_frozen BK156.out))
  go_ret
  exact ⟨by first | rfl | (simp [*, errW_none, errW_some] <;> rfl), bs HB.out⟩
 ·replace c3 := Bool.eq_false_iff.mpr c3
  subst c3
  have H1 : (some (-1)) = some r := by rw [if_neg (show ¬ (false = true) by decide)] at H; exact H
  clear H
  have H := H1
  clear H1
  obtain rfl := Option.some.inj H
  go_enter Try.func116, Try.ntmps116
  go_wp2_with (first | ((with_reducible refine gd (N := 1) rfl ?_); refine bx 1 (cs := #[.int .i64 a0_0, .int .i64 a0_1]) (t := 36) ?_; intro gb156 hg w8 hbox hb; have BK156 := Aside0.mk (hbox); have GW156 := gwb HB hg; replace HB := hs HB hb; clear hb hbox hg; obtain ⟨hcz9_0, hcz9_1⟩ := bc2 (w := w8) BK156.out; have hfz9 := blk_frozen BK156.out) | ((with_reducible refine gc (f := 92) rfl ?_); refine gl 4 Try.func92 #[.agg #[.int .i64 a0_0, .int .i64 a0_1]] ?_; (with_reducible refine (impl_NodeOk.calls a0_0 a0_1 false _ A2.out).mono ?_); rintro e w10 ⟨rfl, hb⟩; refine ⟨_, rfl, ?_⟩; replace BK156 := bb BK156 hb rfl; replace HB := hs HB hb; (try clear hb)))
  go_ret
  exact ⟨by first | rfl | (simp [*, errW_none, errW_some] <;> rfl), bs HB.out⟩

/-! ### impl_EdgeOk: function 93 -/
theorem iIs (a : Int) : impl_LabelOk.f a = some (isL a) := by
  unfold impl_LabelOk.f isL
  by_cases h : 0 ≤ a
  · rw [if_pos h]; simp [h]
  · rw [if_neg h]; simp [h]
theorem iU8 : ∀ a b : Fin 8, impl_LabelUnder.f (a.val : Int) (b.val : Int) = some (U a.val b.val) := by decide +kernel
theorem iU (a b : Int) : impl_LabelUnder.f a b = some (U a b) := by
  by_cases ha : isL a = true
  · by_cases hb : isL b = true
    · obtain ⟨x, rfl⟩ := fin8 ha
      obtain ⟨y, rfl⟩ := fin8 hb
      exact iU8 x y
    · simp [impl_LabelUnder.f, iIs, U, ha, hb]
  · simp [impl_LabelUnder.f, iIs, U, ha]
theorem iN (a b : Int) : impl_NodeOk.f a b = some (nOk a b) := by
  unfold impl_NodeOk.f
  rw [iIs]
  cases h : isL a
  · simp [nOk, h]
  · by_cases hb : 0 ≤ b
    · simp [nOk, h, hb]
    · simp [nOk, h, hb]
theorem iC (a b : Int) : impl_NodeCode.f a b = some (Cd a b) := by
  unfold impl_NodeCode.f Cd
  rw [iN]
  cases h : nOk a b
  · simp
  · have h' := nOk_iff.1 h
    simp only [Option.bind_some, if_true, w64 (x := 64 * a) (by omega), w64 (x := 64 * a + b) (by omega)]
def impl_EdgeOk.f (a0_0 : Int) (a0_1 : Int) (a0_2 : Int) (a0_3 : Int) (a0_4 : Int) : Option (Bool) := some (EOk a0_0 a0_1 a0_2 a0_3 a0_4)
set_option maxHeartbeats 8000000 in
set_option maxRecDepth 100000 in
theorem impl_EdgeOk.calls (a0_0 : Int) (a0_1 : Int) (a0_2 : Int) (a0_3 : Int) (a0_4 : Int) (r : Bool) (w : World) (h : impl_EdgeOk.f a0_0 a0_1 a0_2 a0_3 a0_4 = some r) :
    Calls Try.prog 93 #[.agg #[.int .i64 a0_0, .int .i64 a0_1, .int .i64 a0_2, .int .i64 a0_3, .int .i64 a0_4]] w fun e w' => e = .returned (.bool r) ∧ Below w.heap.size w w' := by
  have hu56 := Try.underlying56
  have hu36 := Try.underlying36
  have HB := Aside0.mk (Below.refl w.heap.size w)
  obtain rfl := Option.some.inj h
  clear h
  have F : ∀ (b1 b2 b3 b4 b5 b6 : Bool), isL a0_0 = b1 → nOk a0_1 a0_2 = b2 → nOk a0_3 a0_4 = b3 → decide (Cd a0_1 a0_2 < Cd a0_3 a0_4) = b4 → U a0_1 a0_0 = b5 → U a0_3 a0_0 = b6 →
      Calls Try.prog 93 #[.agg #[.int .i64 a0_0, .int .i64 a0_1, .int .i64 a0_2, .int .i64 a0_3, .int .i64 a0_4]] w fun e w' => e = .returned (.bool (b1 && (b2 && (b3 && (b4 && (b5 && b6)))))) ∧ Below w.heap.size w w' := by
    intro b1 b2 b3 b4 b5 b6 h1 h2 h3 h4 h5 h6
    have A1 := Aside0.mk ((iIs a0_0).trans (congrArg some h1))
    have A2 := Aside0.mk ((iN a0_1 a0_2).trans (congrArg some h2))
    have A3 := Aside0.mk ((iN a0_3 a0_4).trans (congrArg some h3))
    have A5 := Aside0.mk ((iU a0_1 a0_0).trans (congrArg some h5))
    have A6 := Aside0.mk ((iU a0_3 a0_0).trans (congrArg some h6))
    clear h1 h2 h3 h5 h6
    go_enter Try.func93, Try.ntmps93
    go_wp2_with (first | ((with_reducible refine gate_dst (N := 1) rfl ?_); refine box_event ?hg (N := 1) ?hd (cs := #[.int .i64 a0_0, .int .i64 a0_1, .int .i64 a0_2, .int .i64 a0_3, .int .i64 a0_4]) (t := 56) ?hr ?_; (case hd => rfl); (case hg => rfl); (case hr => first | (go_simp; done) | (go_simp; rfl)); intro gb hg w3 hbox hb; have n0_ := Aside0.mk (below_step HB.out hb); clear HB; have HB := n0_; clear n0_ hg hb))
    have hz0 : ∀ p : Bel w3, p.v.cell? ⟨gb, 0, none⟩ = some (.int .i64 a0_0) := fun p => cell_bel ((blk_cell hbox 0).trans rfl) p
    have hz1 : ∀ p : Bel w3, p.v.cell? ⟨gb, 1, none⟩ = some (.int .i64 a0_1) := fun p => cell_bel ((blk_cell hbox 1).trans rfl) p
    have hz2 : ∀ p : Bel w3, p.v.cell? ⟨gb, 2, none⟩ = some (.int .i64 a0_2) := fun p => cell_bel ((blk_cell hbox 2).trans rfl) p
    have hz3 : ∀ p : Bel w3, p.v.cell? ⟨gb, 3, none⟩ = some (.int .i64 a0_3) := fun p => cell_bel ((blk_cell hbox 3).trans rfl) p
    have hz4 : ∀ p : Bel w3, p.v.cell? ⟨gb, 4, none⟩ = some (.int .i64 a0_4) := fun p => cell_bel ((blk_cell hbox 4).trans rfl) p
    clear hbox
    refine wp_region_bel0 (by kernel_rfl) (by kernel_rfl) ?_
    rcases path6 b1 b2 b3 b4 b5 b6 with rfl | ⟨rfl, rfl⟩ | ⟨rfl, rfl, rfl⟩ | ⟨rfl, rfl, rfl, rfl⟩ | ⟨rfl, rfl, rfl, rfl, rfl⟩ | ⟨rfl, rfl, rfl, rfl, rfl, rfl⟩ | ⟨rfl, rfl, rfl, rfl, rfl, rfl⟩ <;>
    (repeat (go_big_quiet_step (first
        | with_reducible exact calls_bel0 (impl_LabelOk.calls _ _ _ A1.out)
        | with_reducible exact calls_bel (impl_NodeOk.calls a0_1 a0_2 _ _ A2.out)
        | with_reducible exact calls_bel (impl_NodeOk.calls a0_3 a0_4 _ _ A3.out)
        | with_reducible exact calls_bel (impl_NodeCode.calls a0_1 a0_2 _ _ (iC a0_1 a0_2))
        | with_reducible exact calls_bel (impl_NodeCode.calls a0_3 a0_4 _ _ (iC a0_3 a0_4))
        | with_reducible exact calls_bel0 (impl_LabelUnder.calls a0_1 a0_0 _ _ A5.out)
        | with_reducible exact calls_bel0 (impl_LabelUnder.calls a0_3 a0_0 _ _ A6.out)))
     refine wpQuiet_nil ?_
     intro _ hw'
     obtain ⟨⟨wq, hbq⟩, hw''⟩ := hw'
     subst hw''
     go_wp2
     go_ret
     exact ⟨by first | rfl | (simp; done) | (simp [*]; done), below_step HB.out hbq⟩)
  have G := F _ _ _ _ _ _ rfl rfl rfl rfl rfl rfl
  have e : EOk a0_0 a0_1 a0_2 a0_3 a0_4 = (isL a0_0 && (nOk a0_1 a0_2 && (nOk a0_3 a0_4 && (decide (Cd a0_1 a0_2 < Cd a0_3 a0_4) && (U a0_1 a0_0 && U a0_3 a0_0))))) := by
    unfold EOk Cd
    cases h1 : nOk a0_1 a0_2
    · simp
    · cases h2 : nOk a0_3 a0_4
      · simp
      · simp
  rw [e]
  exact G

end Go.Proofs.Ytohmemckdogljaa.QFnGraphEmpty
