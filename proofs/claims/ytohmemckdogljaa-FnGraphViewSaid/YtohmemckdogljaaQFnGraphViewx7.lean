/- Contracts of the Go functions that this law reaches: each does what its plain Lean function says. No condition. -/
import Derived.Test.YtohmemckdogljaaQFnGraphViewx0
import Derived.Test.YtohmemckdogljaaQFnGraphViewx3
import Derived.Test.YtohmemckdogljaaQFnGraphViewx4
import Derived.Test.YtohmemckdogljaaQFnGraphViewx5
import Derived.Test.YtohmemckdogljaaQFnGraphViewx6
namespace Go.Proofs.Ytohmemckdogljaa.QFnGraphView
open Go.RowKit Go.Proofs.YtohmemckdogljaaW.PrintWords Go.Proofs.YtohmemckdogljaaW.PrintLast Go.Proofs.YtohmemckdogljaaW.PrintMore Go.Proofs.Ytohmemckdogljaa.Bl
attribute [local go_sem] max2_int min2_int max_two min_two max_three min_three max_four min_four   -- for this text's walks alone
set_option linter.unusedVariables false
set_option linter.unusedSimpArgs false
set_option maxHeartbeats 8000000
set_option maxRecDepth 100000

/-! ### spec_l2View: function 84 -/
mutual
def spec_l2View.l0 : Nat → Int → Int → List (S36) → List (S56) → List (S36) → List (S56) → Option ((List (S36)) × (List (S56)))
 | 0, _, _, _, _, _, _ => none
 | k + 1, x1, x6, x148000, x148001, x156000, x156001 => if x6 < (x148000.length : Int) then (if 0 ≤ x6 then ((spec_l1Under.f k ((rd_T36 x148000 x6).f0) x1).bind fun t157 => (if t157 = true then (if x156000.length < 8796093022208 then (spec_l2View.l0 k x1 (wrap64 (x6 + 1)) x148000 x148001 (x156000 ++ [(⟨(rd_T36 x148000 x6).f0, (rd_T36 x148000 x6).f1⟩ : S36)]) x156001) else (none)) else (spec_l2View.l0 k x1 (wrap64 (x6 + 1)) x148000 x148001 x156000 x156001))) else (none)) else (spec_l2View.l1 k x1 0 x148000 x148001 x156000 x156001)
def spec_l2View.l1 : Nat → Int → Int → List (S36) → List (S56) → List (S36) → List (S56) → Option ((List (S36)) × (List (S56)))
 | 0, _, _, _, _, _, _ => none
 | k + 1, x1, x7, x148000, x148001, x156000, x156001 => if x7 < (x148001.length : Int) then (if 0 ≤ x7 then ((spec_l1Under.f k ((rd_T56 x148001 x7).f0) x1).bind fun t163 => (if t163 = true then (if x156001.length < 3518437208883 then (spec_l2View.l1 k x1 (wrap64 (x7 + 1)) x148000 x148001 x156000 (x156001 ++ [(⟨(rd_T56 x148001 x7).f0, (⟨(rd_T56 x148001 x7).f1.f0, (rd_T56 x148001 x7).f1.f1⟩ : S36), (⟨(rd_T56 x148001 x7).f2.f0, (rd_T56 x148001 x7).f2.f1⟩ : S36)⟩ : S56)])) else (none)) else (spec_l2View.l1 k x1 (wrap64 (x7 + 1)) x148000 x148001 x156000 x156001))) else (none)) else (some (x156000, x156001))
end
def spec_l2View.f (k : Nat) (l0_0 : List (S36)) (l0_1 : List (S56)) (a1 : Int) : Option ((List (S36)) × (List (S56))) := spec_l2View.l0 k a1 0 l0_0 l0_1 (([] : List (S36))) (([] : List (S56)))
def spec_l2View.T6 : Bool × List (List Nat × List Nat) := (true, [([], []), ([0], [0]), ([], []), ([2], [2]), ([], []), ([3, 4], [3, 4]), ([5], [5]), ([6], [6]), ([1, 7], [1, 7]), ([0, 1, 2, 3, 4, 5, 6, 7, 8], []), ([9, 8, 8, 0, 1, 2, 3, 4, 5, 6, 7, 8], [8, 9])])
def spec_l2View.B6 : List Nat := [0, 1, 0, 4, 0, 28, 60, 124, 255, 511, 1023]
theorem spec_l2View.tab6 : rtab .any (opsOf Try.f84 6) = spec_l2View.T6 := by kernel_rfl
theorem spec_l2View.bits6 : waitsOk spec_l2View.T6.2 spec_l2View.B6 = true := by kernel_rfl
def spec_l2View.T11 : Bool × List (List Nat × List Nat) := (true, [([], []), ([0], [0]), ([], []), ([2], [2]), ([], []), ([3, 4], [3, 4]), ([5], [5]), ([6], [6]), ([1, 7], [1, 7]), ([0, 1, 2, 3, 4, 5, 6, 7, 8], []), ([9, 8, 8, 0, 1, 2, 3, 4, 5, 6, 7, 8], [8, 9])])
def spec_l2View.B11 : List Nat := [0, 1, 0, 4, 0, 28, 60, 124, 255, 511, 1023]
theorem spec_l2View.tab11 : rtab .any (opsOf Try.f84 11) = spec_l2View.T11 := by kernel_rfl
theorem spec_l2View.bits11 : waitsOk spec_l2View.T11.2 spec_l2View.B11 = true := by kernel_rfl
theorem spec_l2View.calls (k : Nat) (A0_0 : Option Addr) (c0_0 : Nat) (l0_0 : List (S36)) (A0_1 : Option Addr) (c0_1 : Nat) (l0_1 : List (S56)) (a1 : Int) (r1 : List (S36)) (r2 : List (S56)) (w : World) (hr0_0 : Kd.C k36 w A0_0 l0_0.length l0_0) (hc0_0 : l0_0.length ≤ c0_0) (hr0_1 : Kd.C k56 w A0_1 l0_1.length l0_1) (hc0_1 : l0_1.length ≤ c0_1) (h : spec_l2View.f k l0_0 l0_1 a1 = some (r1, r2)) :
  Calls Try.prog 84 #[.agg #[.slice A0_0 l0_0.length c0_0, .slice A0_1 l0_1.length c0_1], .int .i64 a1] w fun e w' => ∃ v0_ v1_ : Value, e = .returned (.agg #[v0_, v1_]) ∧ Kd.R k36 36 w' w.heap.size (fun _ => True) v0_ r1 ∧ Kd.R k56 56 w' w.heap.size (fun _ => True) v1_ r2 ∧ Below w.heap.size w w' := by
 have hu34 := Try.underlying34
 have hu36 := Try.underlying36
 have hu56 := Try.underlying56
 have HR0_0 := Aside0.mk hr0_0
 have HC0_0 := Aside0.mk hc0_0
 clear hr0_0 hc0_0
 have HR0_1 := Aside0.mk hr0_1
 have HC0_1 := Aside0.mk hc0_1
 clear hr0_1 hc0_1
 have HB := Aside0.mk (Below.refl w.heap.size w)
 have H := h; unfold spec_l2View.f at H
 clear h
 obtain ⟨y149, hy149⟩ : ∃ y_ : List (S36), y_ = (([] : List (S36))) := ⟨_, rfl⟩
 replace H : (spec_l2View.l0 k a1 0 l0_0 l0_1 y149 (([] : List (S56)))) = some (r1, r2) := by first | (rw [hy149]; exact H) | exact H
 have Ny149 := Aside0.mk hy149
 clear hy149
 obtain ⟨y152, hy152⟩ : ∃ y_ : List (S56), y_ = (([] : List (S56))) := ⟨_, rfl⟩
 replace H : (spec_l2View.l0 k a1 0 l0_0 l0_1 y149 y152) = some (r1, r2) := by first | (rw [hy152]; exact H) | exact H
 have Ny152 := Aside0.mk hy152
 clear hy152
 have H' := Aside0.mk H
 clear H
 go_enter Try.func84, Try.ntmps84
 go_wp2_with (first | ((with_reducible refine gd 2 rfl ?_); refine bx 2 (cs := #[.slice A0_0 l0_0.length c0_0, .slice A0_1 l0_1.length c0_1]) (t := 34) ?_; intro gb147 hg w3 hbox hb; have BK147 := Aside0.mk (hbox); have GW147 := gwb HB hg; replace HB := hs HB hb; clear hb hbox hg) | ((with_reducible refine gd 4 rfl ?_); refine bx 4 (cs := #[.slice none 0 0, .slice none 0 0]) (t := 34) ?_; intro gb148 hg w4 hbox hb; have BK148 := Aside0.mk (hbox); have GW148 := gwb HB hg; replace HB := hs HB hb; have NB147_148 := nq BK147 hg; have NB148_147 := nq' BK147 hg; replace BK147 := bb BK147 hb rfl; clear hb hbox hg) | ((with_reducible refine gd 8 rfl ?_); refine Kd.R_lit k36 _ 36 ?hg (N := 8) ?hd (xs := ([] : List (S36))) (inner := []) (ok := fun _ => True) (okp := fun _ => True) ?hr ?hp (fun _ hk => hk) trivial (Below.refl _ _) (Nat.le_refl _) (by simp) ?_; (case hd => rfl); (case hg => rfl); (case hr => first | (go_simp; done) | (go_simp; rfl)); (case hp => exact (Reps.none _ _)); intro v150 w5 ho6 hb hg_ hnew_; clear hg_ hnew_; (first | rw [← Ny149.out] at ho6 | (simp only [Int.reduceToNat] at ho6; rw [← Ny149.out] at ho6)); have HO151 := Aside0.mk (Kd.R_lower ho6 (below_size (bs HB.out))); replace BK147 := bb BK147 hb rfl; replace BK148 := bb BK148 hb rfl; replace HB := hs HB hb; clear hb ho6) | ((with_reducible refine gd 9 rfl ?_); refine Kd.R_lit k56 _ 56 ?hg (N := 9) ?hd (xs := ([] : List (S56))) (inner := []) (ok := fun _ => True) (okp := fun _ => True) ?hr ?hp (fun _ hk => hk) trivial (Below.refl _ _) (Nat.le_refl _) (by simp) ?_; (case hd => rfl); (case hg => rfl); (case hr => first | (go_simp; done) | (go_simp; rfl)); (case hp => exact (Reps.none _ _)); intro v153 w7 ho8 hb hg_ hnew_; clear hg_ hnew_; (first | rw [← Ny152.out] at ho8 | (simp only [Int.reduceToNat] at ho8; rw [← Ny152.out] at ho8)); replace HO151 := rb HO151 hb; have HO154 := Aside0.mk (Kd.R_lower ho8 (below_size (bs HB.out))); replace BK147 := bb BK147 hb rfl; replace BK148 := bb BK148 hb rfl; replace HB := hs HB hb; clear hb ho8; obtain ⟨Ao9, co9, eo9⟩ := Kd.R_slice HO154.out; subst eo9; obtain ⟨Ao10, co10, eo10⟩ := Kd.R_slice HO151.out; subst eo10) | ((with_reducible refine gd 5 rfl ?_); refine bx 5 (cs := #[.slice none 0 0, .slice none 0 0]) (t := 34) ?_; intro gb155 hg w11 hbox hb; replace HO151 := rb HO151 hb; replace HO154 := rb HO154 hb; have BK155 := Aside0.mk (hbox); have GW155 := gwb HB hg; replace HB := hs HB hb; have NB147_155 := nq BK147 hg; have NB155_147 := nq' BK147 hg; replace BK147 := bb BK147 hb rfl; have NB148_155 := nq BK148 hg; have NB155_148 := nq' BK148 hg; replace BK148 := bb BK148 hb rfl; clear hb hbox hg; have hnb12 := NB155_147.out; have hnc12 := NB147_155.out; have hnb13 := NB155_148.out; have hnc13 := NB148_155.out; obtain ⟨hcz14_0, hcz14_1⟩ := bc2 (w := w11) BK155.out; have hfz14 := blk_frozen BK155.out))
 go_loopg [6] k (fun kq v6 w' => ∃ (x6_1 : Int) (x156000_1 : List (S36)) (u156000 : Value), v6 = .int .i64 x6_1 ∧ Aside0 (spec_l2View.l0 kq a1 x6_1 l0_0 l0_1 x156000_1 y152 = some (r1, r2)) ∧ Aside0 (kq ≤ k) ∧ Aside0 (Kd.R k36 36 w' w.heap.size (fun _ => True) u156000 x156000_1) ∧ Aside0 (Kd.R k56 56 w' w.heap.size (fun _ => True) (.slice Ao9 y152.length co9) y152) ∧ Aside0 (w'.heap[gb147]? = some (.cells #[(.slice A0_0 l0_0.length c0_0), (.slice A0_1 l0_1.length c0_1)] 34 (0, 0))) ∧ Aside0 (w'.heap[gb148]? = some (.cells #[(.slice none 0 0), (.slice none 0 0)] 34 (0, 0))) ∧ Aside0 (w'.heap[gb155]? = some (.cells #[u156000, (.slice Ao9 y152.length co9)] 34 (0, 0))) ∧ Aside0 (Below w.heap.size w w'))
 case atStart => exact ⟨(0), (y149), (.slice Ao10 y149.length co10), eqs, H', ⟨Nat.le_refl _⟩, ⟨Kd.R_mono (rt HO151.out BK155.out (by decide)) (fun _ hk => trivial)⟩, ⟨Kd.R_mono (rt HO154.out BK155.out (by decide)) (fun _ hk => trivial)⟩, ⟨bf BK147.out⟩, ⟨bf BK148.out⟩, ⟨by (with_reducible repeat (first | refine blk_drewN ?_ _ | refine blk_drew ?_ | refine blk_alloc ?_ _)); refine blk_put (cs := #[.slice Ao10 y149.length co10, .slice none 0 0]) ?_ 1 _ rfl; (with_reducible repeat (first | refine blk_drewN ?_ _ | refine blk_drew ?_ | refine blk_alloc ?_ _)); refine blk_put (cs := #[.slice none 0 0, .slice none 0 0]) ?_ 0 _ rfl; exact bf BK155.out⟩, ⟨bs HB.out⟩⟩
 case round =>
  clear H'
  try clear c1
  try clear p2
  try clear c8
  try clear c12
  try clear c13
  try clear hcz14_0 hcz14_1
  try clear hfz14
  obtain ⟨x6_1, x156000_1, u156000, rfl, HA, HK1, HO_156000, HO_156001, BK147, BK148, BK155, HB⟩ := hrel
  cases gk with
  | zero => exact absurd HA.out (by simp [spec_l2View.l0])
  | succ k1 =>
   have H := HA.out
   clear HA
   simp only [spec_l2View.l0] at H
   by_cases c15 : x6_1 < (l0_0.length : Int)
   ·rw [if_pos c15] at H
    have c15b0 : decide (x6_1 < (l0_0.length : Int)) = true := decide_eq_true c15
    clear c15
    by_cases c16 : 0 ≤ x6_1
    ·rw [if_pos c16] at H
     have c16b0 : decide (0 ≤ x6_1) = true := decide_eq_true c16
     clear c16
     replace H := Option.bind_eq_some_iff.mp H
     obtain ⟨t157, A170, H⟩ := H
     try dsimp -simprocs only at H
     have A17 := Aside0.mk A170
     clear A170
     by_cases c18 : t157 = true
     ·subst c18
      have H1 : (if x156000_1.length < 8796093022208 then (spec_l2View.l0 k1 a1 (wrap64 (x6_1 + 1)) l0_0 l0_1 (x156000_1 ++ [(⟨(rd_T36 l0_0 x6_1).f0, (rd_T36 l0_0 x6_1).f1⟩ : S36)]) y152) else (none)) = some (r1, r2) := by rw [if_pos rfl] at H; exact H
      clear H
      have H := H1
      clear H1
      by_cases c19 : x156000_1.length < 8796093022208
      ·rw [if_pos c19] at H
       have LMc19 := Aside0.mk c19
       clear c19
       obtain ⟨y159, hy159⟩ : ∃ y_ : List (S36), y_ = (x156000_1 ++ [(⟨(rd_T36 l0_0 x6_1).f0, (rd_T36 l0_0 x6_1).f1⟩ : S36)]) := ⟨_, rfl⟩
       replace H : (spec_l2View.l0 k1 a1 (wrap64 (x6_1 + 1)) l0_0 l0_1 y159 y152) = some (r1, r2) := by first | (rw [hy159]; exact H) | exact H
       have Ny159 := Aside0.mk hy159
       clear hy159
       have H' := Aside0.mk H
       clear H
       have hnb20 := NB147_148.out
       have hnc20 := NB148_147.out
       have hnb21 := NB147_155.out
       have hnc21 := NB155_147.out
       obtain ⟨hcz22_0, hcz22_1⟩ := bc2 (w := wr) BK147.out
       have hfz22 := blk_frozen BK147.out
       have p156 : 0 ≤ (x6_1 : Int) := oda
       have q156 : x6_1 < (l0_0.length : Int) := oda
       obtain ⟨ad156, e156, hx156_0, hx156_1⟩ := at_T36 HR0_0.out x6_1 p156 q156
       cases e156
       replace hx156_0 := cb HB hx156_0
       replace hx156_1 := cb HB hx156_1
       replace p156 := eq_true p156
       replace q156 := eq_true q156
       try go_wp2_with (first | ((with_reducible refine gc 115 rfl ?_); refine gl 25 Try.func115 #[.int .i64 ((rd_T36 l0_0 x6_1).f0), .int .i64 a1] ?_; (with_reducible refine (spec_l1Under.calls k1 ((rd_T36 l0_0 x6_1).f0) a1 true _ A17.out).mono ?_); rintro e w' ⟨rfl, ⟨nd, rfl⟩⟩; refine ⟨_, rfl, ?_⟩; (try (rw [drewN_self wr]; generalize hq_ : World.drewN wr _ = wr; have n0_ : Aside0 (Kd.R k36 36 wr w.heap.size (fun _ => True) u156000 x156000_1) := ⟨by rw [← hq_]; exact (rl HO_156000.out)⟩; have n1_ : Aside0 (Kd.R k56 56 wr w.heap.size (fun _ => True) (.slice Ao9 y152.length co9) y152) := ⟨by rw [← hq_]; exact (rl HO_156001.out)⟩; have n2_ : Aside0 (wr.heap[gb147]? = some (.cells #[.slice (some ad156) l0_0.length c0_0, .slice A0_1 l0_1.length c0_1] 34 (0, 0))) := ⟨by rw [← hq_]; exact (bf BK147.out)⟩; have n3_ : Aside0 (wr.heap[gb148]? = some (.cells #[.slice none 0 0, .slice none 0 0] 34 (0, 0))) := ⟨by rw [← hq_]; exact (bf BK148.out)⟩; have n4_ : Aside0 (wr.heap[gb155]? = some (.cells #[u156000, .slice Ao9 y152.length co9] 34 (0, 0))) := ⟨by rw [← hq_]; exact (bf BK155.out)⟩; have n5_ : Aside0 (Below w.heap.size w wr) := ⟨by rw [← hq_]; exact (bs HB.out)⟩; clear HO_156000 HO_156001 BK147 BK148 BK155 HB hq_; have HO_156000 := n0_; have HO_156001 := n1_; have BK147 := n2_; have BK148 := n3_; have BK155 := n4_; have HB := n5_; clear n0_ n1_ n2_ n3_ n4_ n5_))))
       replace HO_156000 := rd_ HO_156000
       replace HO_156001 := rd_ HO_156001
       replace BK147 := bd BK147
       replace BK148 := bd BK148
       replace BK155 := bd BK155
       replace HB := hd HB
       have p158 : 0 ≤ (x6_1 : Int) := oda
       have q158 : x6_1 < (l0_0.length : Int) := oda
       obtain ⟨ad158, e158, hx158_0, hx158_1⟩ := at_T36 HR0_0.out x6_1 p158 q158
       have hw158_1 := hx158_1
       have hw158_0 := hx158_0
       obtain rfl : ad156 = ad158 := (by injection e158)
       replace hx158_0 := cb HB hx158_0
       replace hx158_1 := cb HB hx158_1
       replace p158 := eq_true p158
       replace q158 := eq_true q158
       refine start_ (n := 11) (S := fun w' => w'.cell? ⟨gb155, 0, none⟩ = some (u156000) ∧ w'.cell? ⟨gb155, 1, none⟩ = some (.slice Ao9 y152.length co9) ∧ w'.cell? ⟨gb147, 0, none⟩ = some (.slice (some ad156) l0_0.length c0_0) ∧ w'.cell? ⟨gb147, 1, none⟩ = some (.slice A0_1 l0_1.length c0_1) ∧ w'.cell? (ad156.add ((x6_1).toNat * 2)) = some (.int .i64 ((rd_T36 l0_0 x6_1).f0)) ∧ w'.cell? ⟨(ad156.add ((x6_1).toNat * 2)).block, (ad156.add ((x6_1).toNat * 2)).off + 1, none⟩ = some (.int .i64 ((rd_T36 l0_0 x6_1).f1))) (ds := [10]) #[false, false, false, false, false, false, false, false, false, false, false] (by kernel_rfl) rfl rfl ⟨(blk_cell BK155.out 0).trans rfl, (blk_cell BK155.out 1).trans rfl, (blk_cell BK147.out 0).trans rfl, (blk_cell BK147.out 1).trans rfl, (cb HB hw158_0), (cb HB hw158_1)⟩ (fun hHeld => ?_); refine with_tabW spec_l2View.tab6 spec_l2View.bits6 (fun HT_ HW_ => ?_)
       generalize wr.drew = w23 at HO_156000 HO_156001 BK147 BK148 BK155 HB hx158_0 hx158_1 hHeld ⊢
       refine pu 0 26 ?_
       refine pu 2 28 ?_
       refine pu 4 30 ?_
       refine tk 1 27 ?_
       refine tk 3 29 ?_
       refine pu 5 31 ?_
       refine tk 6 32 ?_
       refine one_ (i := 7) (N := some 33) #[true, true, true, true, true, true, true, true, false, false, false] rfl rfl (one_of HT_.out (by kernel_rfl)) (by decide) (fun K hK => ?_)
       refine value_ (w1 := ?_) (v := ?_) (by rfl) rfl ?_ ?_
       rotate_left 2
       ·go_simp
        constructor
        ·rfl
        ·rfl
       refine hK.out _ _ ⟨(blk_cell (blk_alloc BK155.out _) 0).trans rfl, (blk_cell (blk_alloc BK155.out _) 1).trans rfl, (blk_cell (blk_alloc BK147.out _) 0).trans rfl, (blk_cell (blk_alloc BK147.out _) 1).trans rfl, (World.cell?_alloc_lt _ _ _ (World.block_lt_of_cell? _ _ ((cb HB hw158_0)))).trans ((cb HB hw158_0)), (World.cell?_alloc_lt _ _ _ (World.block_lt_of_cell? _ _ ((cb HB hw158_1)))).trans ((cb HB hw158_1))⟩ (fun hHeld => ?_)
       clear hK K
       refine nrm 33 ?_
       refine one_ (i := 8) (N := some 34) #[true, true, true, true, true, true, true, true, true, false, false] rfl rfl (one_of HT_.out (by kernel_rfl)) (by decide) (fun K hK => ?_)
       refine Kd.R_append_step k36 (w0 := w) w.heap.size (by rfl) (.tmp 27) (.tmp 33) 29 36 (.agg #[(.int .i64 0), (.int .i64 0)]) 16 rfl Try.underlying29 info36 rfl (by decide) (by omega) u156000 x156000_1 (⟨(rd_T36 l0_0 x6_1).f0, (rd_T36 l0_0 x6_1).f1⟩ : S36) [.int .i64 ((rd_T36 l0_0 x6_1).f0), .int .i64 ((rd_T36 l0_0 x6_1).f1)] (fun _ => True) (fun _ => False) rfl rfl ?aP (fun _ hk => hk.elim) ?aF ?aO ?aB ?aS ?aL ?_
       (case aP => exact k36_mkM _ _ _ (⟨(rd_T36 l0_0 x6_1).f0, (rd_T36 l0_0 x6_1).f1⟩ : S36))
       (case aB => exact (bs HB.out))
       (case aF => exact (fun _ _ => trivial))
       (case aO => exact (rl HO_156000.out))
       (case aS => exact (below_size (bs HB.out)))
       (case aL => have := LMc19.out; omega)
       intro v160 w24 ho hb hg hat
       rw [← Ny159.out] at ho
       replace HO_156001 := Aside0.mk (Kd.R_over' (rl HO_156001.out) (Kd.R_typed (rl HO_156000.out)) (by decide) hg)
       replace BK147 := gr BK147 HO_156000 hg
       replace BK148 := gr BK148 HO_156000 hg
       replace BK155 := gr BK155 HO_156000 hg
       replace HB := Aside0.mk (hb)
       have HO161 := Aside0.mk (ho)
       clear HO_156000
       clear ho hb hg hat
       obtain ⟨Ao25, co25, eo25⟩ := Kd.R_slice HO161.out
       (first | subst eo25 | (injection eo25 with f1_ f2_ f3_; have f4_ := f1_.symm; have f5_ := f3_.symm; clear f1_ f2_ f3_; subst f4_; subst f5_))
       refine hK.out _ _ ⟨(blk_cell BK155.out 0).trans rfl, (blk_cell BK155.out 1).trans rfl, (blk_cell BK147.out 0).trans rfl, (blk_cell BK147.out 1).trans rfl, (cb HB hw158_0), (cb HB hw158_1)⟩ (fun hHeld => ?_)
       clear hK K
       refine nrm 34 ?_
       refine pu 9 35 ?_
       refine last_ (i := 10) (N := none) #[true, true, true, true, true, true, true, true, true, true, true] rfl rfl (one_of HT_.out (by kernel_rfl)) (by decide) (fun K hK => ?_)
       have hs26 : w24.cell? ⟨gb155, 0, none⟩ = some (u156000) := (blk_cell BK155.out 0).trans rfl
       have hfs26 := blk_frozen BK155.out 0
       have hns26_0 := NB147_155.out
       have hns26_1 := NB148_155.out
       have hms26_0 := NB155_147.out
       have hms26_1 := NB155_148.out
       refine skip_ (w1 := ?_) (by rfl) rfl ?_ ?_
       rotate_left
       ·go_simp
        rfl
       refine hK.out _ _ ?_
       clear hK K
       refine done_ (done_of HT_.out (by kernel_rfl)) ?_
       try go_wp2
       go_roundg k1
       case measure => have := HK1.out; omega
       case rel => exact ⟨(wrap64 (x6_1 + 1)), (y159), (.slice Ao25 y159.length co25), eqs, H', ⟨by have := HK1.out; omega⟩, ⟨Kd.R_mono (rt HO161.out BK155.out (by decide)) (fun _ hk => trivial)⟩, ⟨Kd.R_mono (rt HO_156001.out BK155.out (by decide)) (fun _ hk => trivial)⟩, ⟨bf BK147.out⟩, ⟨bf BK148.out⟩, ⟨by (with_reducible repeat (first | refine blk_drewN ?_ _ | refine blk_drew ?_ | refine blk_alloc ?_ _)); refine blk_put (cs := #[u156000, .slice Ao9 y152.length co9]) ?_ 0 _ rfl; exact bf BK155.out⟩, ⟨bs HB.out⟩⟩
      ·rw [if_neg c19] at H
       exact absurd H (by simp)
     ·replace c18 := Bool.eq_false_iff.mpr c18
      subst c18
      have H1 : (spec_l2View.l0 k1 a1 (wrap64 (x6_1 + 1)) l0_0 l0_1 x156000_1 y152) = some (r1, r2) := by rw [if_neg (show ¬ (false = true) by decide)] at H; exact H
      clear H
      have H := H1
      clear H1
      have H' := Aside0.mk H
      clear H
      have hnb27 := NB147_148.out
      have hnc27 := NB148_147.out
      have hnb28 := NB147_155.out
      have hnc28 := NB155_147.out
      obtain ⟨hcz29_0, hcz29_1⟩ := bc2 (w := wr) BK147.out
      have hfz29 := blk_frozen BK147.out
      have p156 : 0 ≤ (x6_1 : Int) := oda
      have q156 : x6_1 < (l0_0.length : Int) := oda
      obtain ⟨ad156, e156, hx156_0, hx156_1⟩ := at_T36 HR0_0.out x6_1 p156 q156
      cases e156
      replace hx156_0 := cb HB hx156_0
      replace hx156_1 := cb HB hx156_1
      replace p156 := eq_true p156
      replace q156 := eq_true q156
      go_wp2_with (first | ((with_reducible refine gc 115 rfl ?_); refine gl 25 Try.func115 #[.int .i64 ((rd_T36 l0_0 x6_1).f0), .int .i64 a1] ?_; (with_reducible refine (spec_l1Under.calls k1 ((rd_T36 l0_0 x6_1).f0) a1 false _ A17.out).mono ?_); rintro e w' ⟨rfl, ⟨nd, rfl⟩⟩; refine ⟨_, rfl, ?_⟩))
      go_roundg k1
      case measure => have := HK1.out; omega
      case rel => exact ⟨(wrap64 (x6_1 + 1)), (x156000_1), (u156000), eqs, H', ⟨by have := HK1.out; omega⟩, ⟨rl HO_156000.out⟩, ⟨rl HO_156001.out⟩, ⟨bf BK147.out⟩, ⟨bf BK148.out⟩, ⟨bf BK155.out⟩, ⟨bs HB.out⟩⟩
    ·rw [if_neg c16] at H
     exact absurd H (by simp)
   ·rw [if_neg c15] at H
    have c15b0 : decide (x6_1 < (l0_0.length : Int)) = false := decide_eq_false c15
    clear c15
    have H' := Aside0.mk H
    clear H
    have hnb30 := NB147_148.out
    have hnc30 := NB148_147.out
    have hnb31 := NB147_155.out
    have hnc31 := NB155_147.out
    obtain ⟨hcz32_0, hcz32_1⟩ := bc2 (w := wr) BK147.out
    have hfz32 := blk_frozen BK147.out
    go_wp2
    go_loopg [7] k1 (fun kq v7 w' => ∃ (x7_2 : Int) (x156001_2 : List (S56)) (u156001 : Value), v7 = .int .i64 x7_2 ∧ Aside0 (spec_l2View.l1 kq a1 x7_2 l0_0 l0_1 x156000_1 x156001_2 = some (r1, r2)) ∧ Aside0 (kq ≤ k1) ∧ Aside0 (Kd.R k36 36 w' w.heap.size (fun _ => True) u156000 x156000_1) ∧ Aside0 (Kd.R k56 56 w' w.heap.size (fun _ => True) u156001 x156001_2) ∧ Aside0 (w'.heap[gb147]? = some (.cells #[(.slice A0_0 l0_0.length c0_0), (.slice A0_1 l0_1.length c0_1)] 34 (0, 0))) ∧ Aside0 (w'.heap[gb148]? = some (.cells #[(.slice none 0 0), (.slice none 0 0)] 34 (0, 0))) ∧ Aside0 (w'.heap[gb155]? = some (.cells #[u156000, u156001] 34 (0, 0))) ∧ Aside0 (Below w.heap.size w w'))
    case atStart => exact ⟨(0), (y152), (.slice Ao9 y152.length co9), eqs, H', ⟨Nat.le_refl _⟩, ⟨rl HO_156000.out⟩, ⟨rl HO_156001.out⟩, ⟨bf BK147.out⟩, ⟨bf BK148.out⟩, ⟨bf BK155.out⟩, ⟨bs HB.out⟩⟩
    case round =>
     clear H'
     try clear c1
     try clear p1
     try clear q1
     try clear hx1
     try clear c2
     try clear p2
     try clear c3
     try clear p6
     try clear c8
     try clear c11
     try clear c12
     try clear c13
     try clear c15
     try clear c15b0
     try clear p15
     try clear q15
     try clear hx15
     try clear c16
     try clear c16b0
     try clear c18
     try clear c19
     try clear c20
     try clear c21
     try clear c27
     try clear c28
     try clear c30
     try clear c31
     try clear hcz14_0 hcz14_1
     try clear hcz22_0 hcz22_1
     try clear hcz29_0 hcz29_1
     try clear hcz32_0 hcz32_1
     try clear hfz14
     try clear hfz22
     try clear hfz29
     try clear hfz32
     try clear hx156_0
     try clear hx156_1
     try clear hx158_0
     try clear hx158_1
     try clear p156
     try clear p158
     try clear p2
     try clear q156
     try clear q158
     obtain ⟨x7_2, x156001_2, u156001, rfl, HA, HK2, HO_156000, HO_156001, BK147, BK148, BK155, HB⟩ := hrel
     cases gk with
     | zero => exact absurd HA.out (by simp [spec_l2View.l1])
     | succ k2 =>
      have H := HA.out
      clear HA
      simp only [spec_l2View.l1] at H
      by_cases c33 : x7_2 < (l0_1.length : Int)
      ·rw [if_pos c33] at H
       have c33b0 : decide (x7_2 < (l0_1.length : Int)) = true := decide_eq_true c33
       clear c33
       by_cases c34 : 0 ≤ x7_2
       ·rw [if_pos c34] at H
        have c34b0 : decide (0 ≤ x7_2) = true := decide_eq_true c34
        clear c34
        replace H := Option.bind_eq_some_iff.mp H
        obtain ⟨t163, A350, H⟩ := H
        try dsimp -simprocs only at H
        have A35 := Aside0.mk A350
        clear A350
        by_cases c36 : t163 = true
        ·subst c36
         have H1 : (if x156001_2.length < 3518437208883 then (spec_l2View.l1 k2 a1 (wrap64 (x7_2 + 1)) l0_0 l0_1 x156000_1 (x156001_2 ++ [(⟨(rd_T56 l0_1 x7_2).f0, (⟨(rd_T56 l0_1 x7_2).f1.f0, (rd_T56 l0_1 x7_2).f1.f1⟩ : S36), (⟨(rd_T56 l0_1 x7_2).f2.f0, (rd_T56 l0_1 x7_2).f2.f1⟩ : S36)⟩ : S56)])) else (none)) = some (r1, r2) := by rw [if_pos rfl] at H; exact H
         clear H
         have H := H1
         clear H1
         by_cases c37 : x156001_2.length < 3518437208883
         ·rw [if_pos c37] at H
          have LMc37 := Aside0.mk c37
          clear c37
          obtain ⟨y165, hy165⟩ : ∃ y_ : List (S56), y_ = (x156001_2 ++ [(⟨(rd_T56 l0_1 x7_2).f0, (⟨(rd_T56 l0_1 x7_2).f1.f0, (rd_T56 l0_1 x7_2).f1.f1⟩ : S36), (⟨(rd_T56 l0_1 x7_2).f2.f0, (rd_T56 l0_1 x7_2).f2.f1⟩ : S36)⟩ : S56)]) := ⟨_, rfl⟩
          replace H : (spec_l2View.l1 k2 a1 (wrap64 (x7_2 + 1)) l0_0 l0_1 x156000_1 y165) = some (r1, r2) := by first | (rw [hy165]; exact H) | exact H
          have Ny165 := Aside0.mk hy165
          clear hy165
          have H' := Aside0.mk H
          clear H
          have hnb38 := NB147_148.out
          have hnc38 := NB148_147.out
          have hnb39 := NB147_155.out
          have hnc39 := NB155_147.out
          obtain ⟨hcz40_0, hcz40_1⟩ := bc2 (w := wr) BK147.out
          have hfz40 := blk_frozen BK147.out
          have p162 : 0 ≤ (x7_2 : Int) := oda
          have q162 : x7_2 < (l0_1.length : Int) := oda
          obtain ⟨ad162, e162, hx162_0, hx162_1, hx162_2, hx162_3, hx162_4⟩ := at_T56 HR0_1.out x7_2 p162 q162
          cases e162
          replace hx162_0 := cb HB hx162_0
          replace hx162_1 := cb HB hx162_1
          replace hx162_2 := cb HB hx162_2
          replace hx162_3 := cb HB hx162_3
          replace hx162_4 := cb HB hx162_4
          replace p162 := eq_true p162
          replace q162 := eq_true q162
          try go_wp2_with (first | ((with_reducible refine gc 115 rfl ?_); refine gl 50 Try.func115 #[.int .i64 ((rd_T56 l0_1 x7_2).f0), .int .i64 a1] ?_; (with_reducible refine (spec_l1Under.calls k2 ((rd_T56 l0_1 x7_2).f0) a1 true _ A35.out).mono ?_); rintro e w' ⟨rfl, ⟨nd, rfl⟩⟩; refine ⟨_, rfl, ?_⟩; (try (rw [drewN_self wr]; generalize hq_ : World.drewN wr _ = wr; have n0_ : Aside0 (Kd.R k36 36 wr w.heap.size (fun _ => True) u156000 x156000_1) := ⟨by rw [← hq_]; exact (rl HO_156000.out)⟩; have n1_ : Aside0 (Kd.R k56 56 wr w.heap.size (fun _ => True) u156001 x156001_2) := ⟨by rw [← hq_]; exact (rl HO_156001.out)⟩; have n2_ : Aside0 (wr.heap[gb147]? = some (.cells #[.slice A0_0 l0_0.length c0_0, .slice (some ad162) l0_1.length c0_1] 34 (0, 0))) := ⟨by rw [← hq_]; exact (bf BK147.out)⟩; have n3_ : Aside0 (wr.heap[gb148]? = some (.cells #[.slice none 0 0, .slice none 0 0] 34 (0, 0))) := ⟨by rw [← hq_]; exact (bf BK148.out)⟩; have n4_ : Aside0 (wr.heap[gb155]? = some (.cells #[u156000, u156001] 34 (0, 0))) := ⟨by rw [← hq_]; exact (bf BK155.out)⟩; have n5_ : Aside0 (Below w.heap.size w wr) := ⟨by rw [← hq_]; exact (bs HB.out)⟩; clear HO_156000 HO_156001 BK147 BK148 BK155 HB hq_; have HO_156000 := n0_; have HO_156001 := n1_; have BK147 := n2_; have BK148 := n3_; have BK155 := n4_; have HB := n5_; clear n0_ n1_ n2_ n3_ n4_ n5_))))
          replace HO_156000 := rd_ HO_156000
          replace HO_156001 := rd_ HO_156001
          replace BK147 := bd BK147
          replace BK148 := bd BK148
          replace BK155 := bd BK155
          replace HB := hd HB
          have p164 : 0 ≤ (x7_2 : Int) := oda
          have q164 : x7_2 < (l0_1.length : Int) := oda
          obtain ⟨ad164, e164, hx164_0, hx164_1, hx164_2, hx164_3, hx164_4⟩ := at_T56 HR0_1.out x7_2 p164 q164
          have hw164_4 := hx164_4
          have hw164_3 := hx164_3
          have hw164_2 := hx164_2
          have hw164_1 := hx164_1
          have hw164_0 := hx164_0
          obtain rfl : ad162 = ad164 := (by injection e164)
          replace hx164_0 := cb HB hx164_0
          replace hx164_1 := cb HB hx164_1
          replace hx164_2 := cb HB hx164_2
          replace hx164_3 := cb HB hx164_3
          replace hx164_4 := cb HB hx164_4
          replace p164 := eq_true p164
          replace q164 := eq_true q164
          refine start_ (n := 11) (S := fun w' => w'.cell? ⟨gb155, 0, none⟩ = some (u156000) ∧ w'.cell? ⟨gb155, 1, none⟩ = some (u156001) ∧ w'.cell? ⟨gb147, 0, none⟩ = some (.slice A0_0 l0_0.length c0_0) ∧ w'.cell? ⟨gb147, 1, none⟩ = some (.slice (some ad162) l0_1.length c0_1) ∧ w'.cell? (ad162.add ((x7_2).toNat * 5)) = some (.int .i64 ((rd_T56 l0_1 x7_2).f0)) ∧ w'.cell? ⟨(ad162.add ((x7_2).toNat * 5)).block, (ad162.add ((x7_2).toNat * 5)).off + 1, none⟩ = some (.int .i64 ((rd_T56 l0_1 x7_2).f1.f0)) ∧ w'.cell? ⟨(ad162.add ((x7_2).toNat * 5)).block, (ad162.add ((x7_2).toNat * 5)).off + 2, none⟩ = some (.int .i64 ((rd_T56 l0_1 x7_2).f1.f1)) ∧ w'.cell? ⟨(ad162.add ((x7_2).toNat * 5)).block, (ad162.add ((x7_2).toNat * 5)).off + 3, none⟩ = some (.int .i64 ((rd_T56 l0_1 x7_2).f2.f0)) ∧ w'.cell? ⟨(ad162.add ((x7_2).toNat * 5)).block, (ad162.add ((x7_2).toNat * 5)).off + 4, none⟩ = some (.int .i64 ((rd_T56 l0_1 x7_2).f2.f1))) (ds := [10]) #[false, false, false, false, false, false, false, false, false, false, false] (by kernel_rfl) rfl rfl ⟨(blk_cell BK155.out 0).trans rfl, (blk_cell BK155.out 1).trans rfl, (blk_cell BK147.out 0).trans rfl, (blk_cell BK147.out 1).trans rfl, (cb HB hw164_0), (cb HB hw164_1), (cb HB hw164_2), (cb HB hw164_3), (cb HB hw164_4)⟩ (fun hHeld => ?_); refine with_tabW spec_l2View.tab11 spec_l2View.bits11 (fun HT_ HW_ => ?_)
          generalize wr.drew = w41 at HO_156000 HO_156001 BK147 BK148 BK155 HB hx164_0 hx164_1 hx164_2 hx164_3 hx164_4 hHeld ⊢
          refine pu 0 51 ?_
          refine pu 2 53 ?_
          refine pu 4 55 ?_
          refine tk 1 52 ?_
          refine tk 3 54 ?_
          refine pu 5 56 ?_
          refine tk 6 57 ?_
          refine one_ (i := 7) (N := some 58) #[true, true, true, true, true, true, true, true, false, false, false] rfl rfl (one_of HT_.out (by kernel_rfl)) (by decide) (fun K hK => ?_)
          refine value_ (w1 := ?_) (v := ?_) (by rfl) rfl ?_ ?_
          rotate_left 2
          ·go_simp
           constructor
           ·rfl
           ·rfl
          refine hK.out _ _ ⟨(blk_cell (blk_alloc BK155.out _) 0).trans rfl, (blk_cell (blk_alloc BK155.out _) 1).trans rfl, (blk_cell (blk_alloc BK147.out _) 0).trans rfl, (blk_cell (blk_alloc BK147.out _) 1).trans rfl, (World.cell?_alloc_lt _ _ _ (World.block_lt_of_cell? _ _ ((cb HB hw164_0)))).trans ((cb HB hw164_0)), (World.cell?_alloc_lt _ _ _ (World.block_lt_of_cell? _ _ ((cb HB hw164_1)))).trans ((cb HB hw164_1)), (World.cell?_alloc_lt _ _ _ (World.block_lt_of_cell? _ _ ((cb HB hw164_2)))).trans ((cb HB hw164_2)), (World.cell?_alloc_lt _ _ _ (World.block_lt_of_cell? _ _ ((cb HB hw164_3)))).trans ((cb HB hw164_3)), (World.cell?_alloc_lt _ _ _ (World.block_lt_of_cell? _ _ ((cb HB hw164_4)))).trans ((cb HB hw164_4))⟩ (fun hHeld => ?_)
          clear hK K
          refine nrm 58 ?_
          refine one_ (i := 8) (N := some 59) #[true, true, true, true, true, true, true, true, true, false, false] rfl rfl (one_of HT_.out (by kernel_rfl)) (by decide) (fun K hK => ?_)
          refine Kd.R_append_step k56 (w0 := w) w.heap.size (by rfl) (.tmp 52) (.tmp 58) 32 56 (.agg #[(.int .i64 0), (.int .i64 0), (.int .i64 0), (.int .i64 0), (.int .i64 0)]) 40 rfl Try.underlying32 info56 rfl (by decide) (by omega) u156001 x156001_2 (⟨(rd_T56 l0_1 x7_2).f0, (⟨(rd_T56 l0_1 x7_2).f1.f0, (rd_T56 l0_1 x7_2).f1.f1⟩ : S36), (⟨(rd_T56 l0_1 x7_2).f2.f0, (rd_T56 l0_1 x7_2).f2.f1⟩ : S36)⟩ : S56) [.int .i64 ((rd_T56 l0_1 x7_2).f0), .int .i64 ((rd_T56 l0_1 x7_2).f1.f0), .int .i64 ((rd_T56 l0_1 x7_2).f1.f1), .int .i64 ((rd_T56 l0_1 x7_2).f2.f0), .int .i64 ((rd_T56 l0_1 x7_2).f2.f1)] (fun _ => True) (fun _ => False) rfl rfl ?aP (fun _ hk => hk.elim) ?aF ?aO ?aB ?aS ?aL ?_
          (case aP => exact k56_mkM _ _ _ (⟨(rd_T56 l0_1 x7_2).f0, (⟨(rd_T56 l0_1 x7_2).f1.f0, (rd_T56 l0_1 x7_2).f1.f1⟩ : S36), (⟨(rd_T56 l0_1 x7_2).f2.f0, (rd_T56 l0_1 x7_2).f2.f1⟩ : S36)⟩ : S56))
          (case aB => exact (bs HB.out))
          (case aF => exact (fun _ _ => trivial))
          (case aO => exact (rl HO_156001.out))
          (case aS => exact (below_size (bs HB.out)))
          (case aL => have := LMc37.out; omega)
          intro v166 w42 ho hb hg hat
          rw [← Ny165.out] at ho
          replace HO_156000 := Aside0.mk (Kd.R_over' (rl HO_156000.out) (Kd.R_typed (rl HO_156001.out)) (by decide) hg)
          replace BK147 := gr BK147 HO_156001 hg
          replace BK148 := gr BK148 HO_156001 hg
          replace BK155 := gr BK155 HO_156001 hg
          replace HB := Aside0.mk (hb)
          have HO167 := Aside0.mk (ho)
          clear HO_156001
          clear ho hb hg hat
          obtain ⟨Ao43, co43, eo43⟩ := Kd.R_slice HO167.out
          (first | subst eo43 | (injection eo43 with f1_ f2_ f3_; have f4_ := f1_.symm; have f5_ := f3_.symm; clear f1_ f2_ f3_; subst f4_; subst f5_))
          refine hK.out _ _ ⟨(blk_cell BK155.out 0).trans rfl, (blk_cell BK155.out 1).trans rfl, (blk_cell BK147.out 0).trans rfl, (blk_cell BK147.out 1).trans rfl, (cb HB hw164_0), (cb HB hw164_1), (cb HB hw164_2), (cb HB hw164_3), (cb HB hw164_4)⟩ (fun hHeld => ?_)
          clear hK K
          refine nrm 59 ?_
          refine pu 9 60 ?_
          refine last_ (i := 10) (N := none) #[true, true, true, true, true, true, true, true, true, true, true] rfl rfl (one_of HT_.out (by kernel_rfl)) (by decide) (fun K hK => ?_)
          have hs44 : w42.cell? ⟨gb155, 1, none⟩ = some (u156001) := (blk_cell BK155.out 1).trans rfl
          have hfs44 := blk_frozen BK155.out 1
          have hns44_0 := NB147_155.out
          have hns44_1 := NB148_155.out
          have hms44_0 := NB155_147.out
          have hms44_1 := NB155_148.out
          refine skip_ (w1 := ?_) (by rfl) rfl ?_ ?_
          rotate_left
          ·go_simp
           rfl
          refine hK.out _ _ ?_
          clear hK K
          refine done_ (done_of HT_.out (by kernel_rfl)) ?_
          try go_wp2
          go_roundg k2
          case measure => have := HK1.out; have := HK2.out; omega
          case rel => exact ⟨(wrap64 (x7_2 + 1)), (y165), (.slice Ao43 y165.length co43), eqs, H', ⟨by have := HK1.out; have := HK2.out; omega⟩, ⟨Kd.R_mono (rt HO_156000.out BK155.out (by decide)) (fun _ hk => trivial)⟩, ⟨Kd.R_mono (rt HO167.out BK155.out (by decide)) (fun _ hk => trivial)⟩, ⟨bf BK147.out⟩, ⟨bf BK148.out⟩, ⟨by (with_reducible repeat (first | refine blk_drewN ?_ _ | refine blk_drew ?_ | refine blk_alloc ?_ _)); refine blk_put (cs := #[u156000, u156001]) ?_ 1 _ rfl; exact bf BK155.out⟩, ⟨bs HB.out⟩⟩
         ·rw [if_neg c37] at H
          exact absurd H (by simp)
        ·replace c36 := Bool.eq_false_iff.mpr c36
         subst c36
         have H1 : (spec_l2View.l1 k2 a1 (wrap64 (x7_2 + 1)) l0_0 l0_1 x156000_1 x156001_2) = some (r1, r2) := by rw [if_neg (show ¬ (false = true) by decide)] at H; exact H
         clear H
         have H := H1
         clear H1
         have H' := Aside0.mk H
         clear H
         have hnb45 := NB147_148.out
         have hnc45 := NB148_147.out
         have hnb46 := NB147_155.out
         have hnc46 := NB155_147.out
         obtain ⟨hcz47_0, hcz47_1⟩ := bc2 (w := wr) BK147.out
         have hfz47 := blk_frozen BK147.out
         have p162 : 0 ≤ (x7_2 : Int) := oda
         have q162 : x7_2 < (l0_1.length : Int) := oda
         obtain ⟨ad162, e162, hx162_0, hx162_1, hx162_2, hx162_3, hx162_4⟩ := at_T56 HR0_1.out x7_2 p162 q162
         cases e162
         replace hx162_0 := cb HB hx162_0
         replace hx162_1 := cb HB hx162_1
         replace hx162_2 := cb HB hx162_2
         replace hx162_3 := cb HB hx162_3
         replace hx162_4 := cb HB hx162_4
         replace p162 := eq_true p162
         replace q162 := eq_true q162
         go_wp2_with (first | ((with_reducible refine gc 115 rfl ?_); refine gl 50 Try.func115 #[.int .i64 ((rd_T56 l0_1 x7_2).f0), .int .i64 a1] ?_; (with_reducible refine (spec_l1Under.calls k2 ((rd_T56 l0_1 x7_2).f0) a1 false _ A35.out).mono ?_); rintro e w' ⟨rfl, ⟨nd, rfl⟩⟩; refine ⟨_, rfl, ?_⟩))
         go_roundg k2
         case measure => have := HK1.out; have := HK2.out; omega
         case rel => exact ⟨(wrap64 (x7_2 + 1)), (x156001_2), (u156001), eqs, H', ⟨by have := HK1.out; have := HK2.out; omega⟩, ⟨rl HO_156000.out⟩, ⟨rl HO_156001.out⟩, ⟨bf BK147.out⟩, ⟨bf BK148.out⟩, ⟨bf BK155.out⟩, ⟨bs HB.out⟩⟩
       ·rw [if_neg c34] at H
        exact absurd H (by simp)
      ·rw [if_neg c33] at H
       have c33b0 : decide (x7_2 < (l0_1.length : Int)) = false := decide_eq_false c33
       clear c33
       simp only [Option.some.injEq, Prod.mk.injEq] at H
       obtain ⟨rfl, rfl⟩ := H
       have hnb48 := NB147_148.out
       have hnc48 := NB148_147.out
       have hnb49 := NB147_155.out
       have hnc49 := NB155_147.out
       obtain ⟨hcz50_0, hcz50_1⟩ := bc2 (w := wr) BK147.out
       have hfz50 := blk_frozen BK147.out
       have hnb51 := NB155_148.out
       have hnc51 := NB148_155.out
       obtain ⟨hcz52_0, hcz52_1⟩ := bc2 (w := wr) BK155.out
       have hfz52 := blk_frozen BK155.out
       obtain ⟨Ao53, co53, eo53⟩ := Kd.R_slice HO_156000.out
       subst eo53
       obtain ⟨hcz54_0, hcz54_1⟩ := bc2 (w := wr) BK148.out
       have hfz54 := blk_frozen BK148.out
       obtain ⟨Ao55, co55, eo55⟩ := Kd.R_slice HO_156001.out
       subst eo55
       go_wp2
       refine bodyPost_ret (results_cell_row rfl _ _ gb148 34 #[.slice Ao53 x156000_1.length co53, .slice Ao55 x156001_2.length co55] (0, 0) _ rfl (bp BK148.out rfl) Try.underlying34 rfl (by kernel_rfl)) rfl ?_
       exact ⟨_, _, eqr, Kd.R_mono (rt HO_156000.out BK148.out (by decide)) (fun _ hk => trivial), Kd.R_mono (rt HO_156001.out BK148.out (by decide)) (fun _ hk => trivial), bs HB.out⟩

/-! ### spec_GraphView: function 35 -/
def spec_GraphView.f (k : Nat) (l0_0 : List (S36)) (l0_1 : List (S56)) (a1 : Int) : Option ((List (S36)) × (List (S56))) := (spec_GraphOk.f k l0_0 l0_1).bind fun t170 => (if t170 = true then ((spec_LabelOk.f a1).bind fun t171 => (if t171 = true then ((spec_l2View.f k l0_0 l0_1 a1).bind fun bt172 => (some (bt172.1, bt172.2))) else (some (([] : List (S36)), ([] : List (S56)))))) else (some (([] : List (S36)), ([] : List (S56)))))
theorem spec_GraphView.calls (k : Nat) (A0_0 : Option Addr) (c0_0 : Nat) (l0_0 : List (S36)) (A0_1 : Option Addr) (c0_1 : Nat) (l0_1 : List (S56)) (a1 : Int) (r1 : List (S36)) (r2 : List (S56)) (w : World) (hr0_0 : Kd.C k36 w A0_0 l0_0.length l0_0) (hc0_0 : l0_0.length ≤ c0_0) (hr0_1 : Kd.C k56 w A0_1 l0_1.length l0_1) (hc0_1 : l0_1.length ≤ c0_1) (h : spec_GraphView.f k l0_0 l0_1 a1 = some (r1, r2)) :
  Calls Try.prog 35 #[.agg #[.slice A0_0 l0_0.length c0_0, .slice A0_1 l0_1.length c0_1], .int .i64 a1] w fun e w' => ∃ v0_ v1_ : Value, e = .returned (.agg #[v0_, v1_]) ∧ Kd.R k36 36 w' w.heap.size (fun _ => True) v0_ r1 ∧ Kd.R k56 56 w' w.heap.size (fun _ => True) v1_ r2 ∧ Below w.heap.size w w' := by
 have hu34 := Try.underlying34
 have HR0_0 := Aside0.mk hr0_0
 have HC0_0 := Aside0.mk hc0_0
 clear hr0_0 hc0_0
 have HR0_1 := Aside0.mk hr0_1
 have HC0_1 := Aside0.mk hc0_1
 clear hr0_1 hc0_1
 have HB := Aside0.mk (Below.refl w.heap.size w)
 have H := h; unfold spec_GraphView.f at H
 clear h
 replace H := Option.bind_eq_some_iff.mp H
 obtain ⟨t170, A30, H⟩ := H
 try dsimp -simprocs only at H
 have A3 := Aside0.mk A30
 clear A30
 by_cases c4 : t170 = true
 ·subst c4
  have H1 : ((spec_LabelOk.f a1).bind fun t171 => (if t171 = true then ((spec_l2View.f k l0_0 l0_1 a1).bind fun bt172 => (some (bt172.1, bt172.2))) else (some (([] : List (S36)), ([] : List (S56)))))) = some (r1, r2) := by rw [if_pos rfl] at H; exact H
  clear H
  have H := H1
  clear H1
  replace H := Option.bind_eq_some_iff.mp H
  obtain ⟨t171, A50, H⟩ := H
  try dsimp -simprocs only at H
  have A5 := Aside0.mk A50
  clear A50
  by_cases c6 : t171 = true
  ·subst c6
   have H1 : ((spec_l2View.f k l0_0 l0_1 a1).bind fun bt172 => (some (bt172.1, bt172.2))) = some (r1, r2) := by rw [if_pos rfl] at H; exact H
   clear H
   have H := H1
   clear H1
   replace H := Option.bind_eq_some_iff.mp H
   obtain ⟨⟨t172, t175⟩, A70, H⟩ := H
   try dsimp -simprocs only at H
   have A7 := Aside0.mk A70
   clear A70
   simp only [Option.some.injEq, Prod.mk.injEq] at H
   obtain ⟨rfl, rfl⟩ := H
   go_enter Try.func35, Try.ntmps35
   go_wp2_with (first | ((with_reducible refine gd 2 rfl ?_); refine bx 2 (cs := #[.slice A0_0 l0_0.length c0_0, .slice A0_1 l0_1.length c0_1]) (t := 34) ?_; intro gb168 hg w8 hbox hb; have BK168 := Aside0.mk (hbox); have GW168 := gwb HB hg; replace HB := hs HB hb; clear hb hbox hg) | ((with_reducible refine gd 4 rfl ?_); refine bx 4 (cs := #[.slice none 0 0, .slice none 0 0]) (t := 34) ?_; intro gb169 hg w9 hbox hb; have BK169 := Aside0.mk (hbox); have GW169 := gwb HB hg; replace HB := hs HB hb; have NB168_169 := nq BK168 hg; have NB169_168 := nq' BK168 hg; replace BK168 := bb BK168 hb rfl; clear hb hbox hg; have hnb10 := NB168_169.out; have hnc10 := NB169_168.out; obtain ⟨hcz11_0, hcz11_1⟩ := bc2 (w := w9) BK168.out; have hfz11 := blk_frozen BK168.out) | ((with_reducible refine gc 33 rfl ?_); refine gl 6 Try.func33 #[.agg #[.slice A0_0 l0_0.length c0_0, .slice A0_1 l0_1.length c0_1]] ?_; (with_reducible refine (spec_GraphOk.calls k _ _ l0_0 _ _ l0_1 true _ ?side1 ?side2 ?side3 ?side4 A3.out).mono ?_); (case side1 => exact Kd.C_below HR0_0.out (bs HB.out)); (case side2 => exact HC0_0.out); (case side3 => exact Kd.C_below HR0_1.out (bs HB.out)); (case side4 => exact HC0_1.out); rintro e w12 ⟨rfl, hb⟩; refine ⟨_, rfl, ?_⟩; replace BK168 := bb BK168 hb rfl; replace BK169 := bb BK169 hb rfl; replace HB := hs HB hb; (try clear hb)) | (go_at_call 83; (with_reducible refine (spec_LabelOk.calls a1 true _ A5.out).mono ?_); rintro e w' ⟨rfl, ⟨nd, rfl⟩⟩; (try (rw [drewN_self w12]; generalize hq_ : World.drewN w12 _ = w12; have n0_ : Aside0 (w12.heap[gb168]? = some (.cells #[.slice A0_0 l0_0.length c0_0, .slice A0_1 l0_1.length c0_1] 34 (0, 0))) := ⟨by rw [← hq_]; exact (bf BK168.out)⟩; have n1_ : Aside0 (w12.heap[gb169]? = some (.cells #[.slice none 0 0, .slice none 0 0] 34 (0, 0))) := ⟨by rw [← hq_]; exact (bf BK169.out)⟩; have n2_ : Aside0 (Below w.heap.size w w12) := ⟨by rw [← hq_]; exact (bs HB.out)⟩; clear BK168 BK169 HB hq_; have BK168 := n0_; have BK169 := n1_; have HB := n2_; clear n0_ n1_ n2_)); obtain ⟨hcz13_0, hcz13_1⟩ := bc2 (w := w12) BK168.out; have hfz13 := blk_frozen BK168.out) | ((with_reducible refine gc 84 rfl ?_); refine gl 16 Try.func84 #[.agg #[.slice A0_0 l0_0.length c0_0, .slice A0_1 l0_1.length c0_1], .int .i64 a1] ?_; (with_reducible refine (spec_l2View.calls k _ _ l0_0 _ _ l0_1 a1 t172 t175 _ ?side1 ?side2 ?side3 ?side4 A7.out).mono ?_); (case side1 => exact Kd.C_below HR0_0.out (bs HB.out)); (case side2 => exact HC0_0.out); (case side3 => exact Kd.C_below HR0_1.out (bs HB.out)); (case side4 => exact HC0_1.out); rintro e w14 ⟨v173, v176, rfl, ho0, ho1, hb⟩; refine ⟨_, rfl, ?_⟩; have HO174 := Aside0.mk (Kd.R_lower ho0 (below_size (bs HB.out))); have HO177 := Aside0.mk (Kd.R_lower ho1 (below_size (bs HB.out))); replace BK168 := bb BK168 hb rfl; replace BK169 := bb BK169 hb rfl; replace HB := hs HB hb; (try clear ho0 ho1 hb); obtain ⟨Ao15, co15, eo15⟩ := Kd.R_slice HO174.out; subst eo15; obtain ⟨hcz16_0, hcz16_1⟩ := bc2 (w := w14) BK169.out; have hfz16 := blk_frozen BK169.out; obtain ⟨Ao17, co17, eo17⟩ := Kd.R_slice HO177.out; subst eo17))
   refine bodyPost_ret (results_cell_row rfl _ _ gb169 34 #[.slice Ao15 t172.length co15, .slice Ao17 t175.length co17] (0, 0) _ rfl (bp BK169.out rfl) Try.underlying34 rfl (by kernel_rfl)) rfl ?_
   exact ⟨_, _, eqr, Kd.R_mono (rt HO174.out BK169.out (by decide)) (fun _ hk => trivial), Kd.R_mono (rt HO177.out BK169.out (by decide)) (fun _ hk => trivial), bs HB.out⟩
  ·replace c6 := Bool.eq_false_iff.mpr c6
   subst c6
   have H1 : (some (([] : List (S36)), ([] : List (S56)))) = some (r1, r2) := by rw [if_neg (show ¬ (false = true) by decide)] at H; exact H
   clear H
   have H := H1
   clear H1
   simp only [Option.some.injEq, Prod.mk.injEq] at H
   obtain ⟨rfl, rfl⟩ := H
   go_enter Try.func35, Try.ntmps35
   go_wp2_with (first | ((with_reducible refine gd 2 rfl ?_); refine bx 2 (cs := #[.slice A0_0 l0_0.length c0_0, .slice A0_1 l0_1.length c0_1]) (t := 34) ?_; intro gb168 hg w18 hbox hb; have BK168 := Aside0.mk (hbox); have GW168 := gwb HB hg; replace HB := hs HB hb; clear hb hbox hg) | ((with_reducible refine gd 4 rfl ?_); refine bx 4 (cs := #[.slice none 0 0, .slice none 0 0]) (t := 34) ?_; intro gb169 hg w19 hbox hb; have BK169 := Aside0.mk (hbox); have GW169 := gwb HB hg; replace HB := hs HB hb; have NB168_169 := nq BK168 hg; have NB169_168 := nq' BK168 hg; replace BK168 := bb BK168 hb rfl; clear hb hbox hg; have hnb20 := NB168_169.out; have hnc20 := NB169_168.out; obtain ⟨hcz21_0, hcz21_1⟩ := bc2 (w := w19) BK168.out; have hfz21 := blk_frozen BK168.out) | ((with_reducible refine gc 33 rfl ?_); refine gl 6 Try.func33 #[.agg #[.slice A0_0 l0_0.length c0_0, .slice A0_1 l0_1.length c0_1]] ?_; (with_reducible refine (spec_GraphOk.calls k _ _ l0_0 _ _ l0_1 true _ ?side1 ?side2 ?side3 ?side4 A3.out).mono ?_); (case side1 => exact Kd.C_below HR0_0.out (bs HB.out)); (case side2 => exact HC0_0.out); (case side3 => exact Kd.C_below HR0_1.out (bs HB.out)); (case side4 => exact HC0_1.out); rintro e w22 ⟨rfl, hb⟩; refine ⟨_, rfl, ?_⟩; replace BK168 := bb BK168 hb rfl; replace BK169 := bb BK169 hb rfl; replace HB := hs HB hb; (try clear hb)) | (go_at_call 83; (with_reducible refine (spec_LabelOk.calls a1 false _ A5.out).mono ?_); rintro e w' ⟨rfl, ⟨nd, rfl⟩⟩; (try (rw [drewN_self w22]; generalize hq_ : World.drewN w22 _ = w22; have n0_ : Aside0 (w22.heap[gb168]? = some (.cells #[.slice A0_0 l0_0.length c0_0, .slice A0_1 l0_1.length c0_1] 34 (0, 0))) := ⟨by rw [← hq_]; exact (bf BK168.out)⟩; have n1_ : Aside0 (w22.heap[gb169]? = some (.cells #[.slice none 0 0, .slice none 0 0] 34 (0, 0))) := ⟨by rw [← hq_]; exact (bf BK169.out)⟩; have n2_ : Aside0 (Below w.heap.size w w22) := ⟨by rw [← hq_]; exact (bs HB.out)⟩; clear BK168 BK169 HB hq_; have BK168 := n0_; have BK169 := n1_; have HB := n2_; clear n0_ n1_ n2_)); obtain ⟨hcz23_0, hcz23_1⟩ := bc2 (w := w22) BK169.out; have hfz23 := blk_frozen BK169.out))
   refine bodyPost_ret (results_cell_row rfl _ _ gb169 34 #[.slice none 0 0, .slice none 0 0] (0, 0) _ rfl (bp BK169.out rfl) Try.underlying34 rfl (by kernel_rfl)) rfl ?_
   exact ⟨_, _, eqr, by first | exact Kd.R_nil _ _ _ _ _ | exact Kd.N_nil _ _ _ _ _ | exact Kd.V_nil _ _ _ _ _ | exact Kd.Q_nil _ _ _ _ _ | exact Kd.S_nil _ _ _ _ _, by first | exact Kd.R_nil _ _ _ _ _ | exact Kd.N_nil _ _ _ _ _ | exact Kd.V_nil _ _ _ _ _ | exact Kd.Q_nil _ _ _ _ _ | exact Kd.S_nil _ _ _ _ _, bs HB.out⟩
 ·replace c4 := Bool.eq_false_iff.mpr c4
  subst c4
  have H1 : (some (([] : List (S36)), ([] : List (S56)))) = some (r1, r2) := by rw [if_neg (show ¬ (false = true) by decide)] at H; exact H
  clear H
  have H := H1
  clear H1
  simp only [Option.some.injEq, Prod.mk.injEq] at H
  obtain ⟨rfl, rfl⟩ := H
  go_enter Try.func35, Try.ntmps35
  go_wp2_with (first | ((with_reducible refine gd 2 rfl ?_); refine bx 2 (cs := #[.slice A0_0 l0_0.length c0_0, .slice A0_1 l0_1.length c0_1]) (t := 34) ?_; intro gb168 hg w24 hbox hb; have BK168 := Aside0.mk (hbox); have GW168 := gwb HB hg; replace HB := hs HB hb; clear hb hbox hg) | ((with_reducible refine gd 4 rfl ?_); refine bx 4 (cs := #[.slice none 0 0, .slice none 0 0]) (t := 34) ?_; intro gb169 hg w25 hbox hb; have BK169 := Aside0.mk (hbox); have GW169 := gwb HB hg; replace HB := hs HB hb; have NB168_169 := nq BK168 hg; have NB169_168 := nq' BK168 hg; replace BK168 := bb BK168 hb rfl; clear hb hbox hg; have hnb26 := NB168_169.out; have hnc26 := NB169_168.out; obtain ⟨hcz27_0, hcz27_1⟩ := bc2 (w := w25) BK168.out; have hfz27 := blk_frozen BK168.out) | ((with_reducible refine gc 33 rfl ?_); refine gl 6 Try.func33 #[.agg #[.slice A0_0 l0_0.length c0_0, .slice A0_1 l0_1.length c0_1]] ?_; (with_reducible refine (spec_GraphOk.calls k _ _ l0_0 _ _ l0_1 false _ ?side1 ?side2 ?side3 ?side4 A3.out).mono ?_); (case side1 => exact Kd.C_below HR0_0.out (bs HB.out)); (case side2 => exact HC0_0.out); (case side3 => exact Kd.C_below HR0_1.out (bs HB.out)); (case side4 => exact HC0_1.out); rintro e w28 ⟨rfl, hb⟩; refine ⟨_, rfl, ?_⟩; replace BK168 := bb BK168 hb rfl; replace BK169 := bb BK169 hb rfl; replace HB := hs HB hb; (try clear hb); obtain ⟨hcz29_0, hcz29_1⟩ := bc2 (w := w28) BK169.out; have hfz29 := blk_frozen BK169.out))
  refine bodyPost_ret (results_cell_row rfl _ _ gb169 34 #[.slice none 0 0, .slice none 0 0] (0, 0) _ rfl (bp BK169.out rfl) Try.underlying34 rfl (by kernel_rfl)) rfl ?_
  exact ⟨_, _, eqr, by first | exact Kd.R_nil _ _ _ _ _ | exact Kd.N_nil _ _ _ _ _ | exact Kd.V_nil _ _ _ _ _ | exact Kd.Q_nil _ _ _ _ _ | exact Kd.S_nil _ _ _ _ _, by first | exact Kd.R_nil _ _ _ _ _ | exact Kd.N_nil _ _ _ _ _ | exact Kd.V_nil _ _ _ _ _ | exact Kd.Q_nil _ _ _ _ _ | exact Kd.S_nil _ _ _ _ _, bs HB.out⟩

/-! ### impl_GraphView: function 36 -/
mutual
def impl_GraphView.l0 : Nat → Int → List (S36) → Int → Int → List (S36) → List (S56) → List (S36) → Option ((List (S36)) × (List (S56)))
 | 0, _, _, _, _, _, _, _ => none
 | k + 1, x1, x15, x16, x17, x179000, x179001, x181000 => if x17 < x16 then (if 0 ≤ x17 then (if x17 < (x15.length : Int) then ((impl_LabelUnder.f ((rd_T36 x15 x17).f0) x1).bind fun t184 => (if t184 = true then (if x181000.length < 8796093022208 then (impl_GraphView.l0 k x1 x15 x16 (wrap64 (x17 + 1)) x179000 x179001 (x181000 ++ [(⟨(rd_T36 x15 x17).f0, (rd_T36 x15 x17).f1⟩ : S36)])) else (none)) else (impl_GraphView.l0 k x1 x15 x16 (wrap64 (x17 + 1)) x179000 x179001 x181000))) else (none)) else (none)) else (impl_GraphView.l1 k x1 x179001 (x179001.length : Int) 0 x181000 ([] : List (S56)))
def impl_GraphView.l1 : Nat → Int → List (S56) → Int → Int → List (S36) → List (S56) → Option ((List (S36)) × (List (S56)))
 | 0, _, _, _, _, _, _ => none
 | k + 1, x1, x33, x34, x35, x181000, x181001 => if x35 < x34 then (if 0 ≤ x35 then (if x35 < (x33.length : Int) then ((impl_LabelUnder.f ((rd_T56 x33 x35).f0) x1).bind fun t190 => (if t190 = true then (if x181001.length < 3518437208883 then (impl_GraphView.l1 k x1 x33 x34 (wrap64 (x35 + 1)) x181000 (x181001 ++ [(⟨(rd_T56 x33 x35).f0, (⟨(rd_T56 x33 x35).f1.f0, (rd_T56 x33 x35).f1.f1⟩ : S36), (⟨(rd_T56 x33 x35).f2.f0, (rd_T56 x33 x35).f2.f1⟩ : S36)⟩ : S56)])) else (none)) else (impl_GraphView.l1 k x1 x33 x34 (wrap64 (x35 + 1)) x181000 x181001))) else (none)) else (none)) else (some (x181000, x181001))
end
def impl_GraphView.f (k : Nat) (l0_0 : List (S36)) (l0_1 : List (S56)) (a1 : Int) : Option ((List (S36)) × (List (S56))) := (impl_GraphOk.f k l0_0 l0_1).bind fun t181 => (if t181 = true then (impl_GraphView.l0 k a1 l0_0 (l0_0.length : Int) 0 l0_0 l0_1 ([] : List (S36))) else (some (([] : List (S36)), ([] : List (S56)))))
theorem impl_GraphView.calls (k : Nat) (A0_0 : Option Addr) (c0_0 : Nat) (l0_0 : List (S36)) (A0_1 : Option Addr) (c0_1 : Nat) (l0_1 : List (S56)) (a1 : Int) (r1 : List (S36)) (r2 : List (S56)) (w : World) (hr0_0 : Kd.C k36 w A0_0 l0_0.length l0_0) (hc0_0 : l0_0.length ≤ c0_0) (hr0_1 : Kd.C k56 w A0_1 l0_1.length l0_1) (hc0_1 : l0_1.length ≤ c0_1) (h : impl_GraphView.f k l0_0 l0_1 a1 = some (r1, r2)) :
  Calls Try.prog 36 #[.agg #[.slice A0_0 l0_0.length c0_0, .slice A0_1 l0_1.length c0_1], .int .i64 a1] w fun e w' => ∃ v0_ v1_ : Value, e = .returned (.agg #[v0_, v1_]) ∧ Kd.R k36 36 w' w.heap.size (fun _ => True) v0_ r1 ∧ Kd.R k56 56 w' w.heap.size (fun _ => True) v1_ r2 ∧ Below w.heap.size w w' := by
 have hu34 := Try.underlying34
 have hu36 := Try.underlying36
 have hu56 := Try.underlying56
 have HR0_0 := Aside0.mk hr0_0
 have HC0_0 := Aside0.mk hc0_0
 clear hr0_0 hc0_0
 have HR0_1 := Aside0.mk hr0_1
 have HC0_1 := Aside0.mk hc0_1
 clear hr0_1 hc0_1
 have HB := Aside0.mk (Below.refl w.heap.size w)
 have H := h; unfold impl_GraphView.f at H
 clear h
 replace H := Option.bind_eq_some_iff.mp H
 obtain ⟨t181, A30, H⟩ := H
 try dsimp -simprocs only at H
 have A3 := Aside0.mk A30
 clear A30
 by_cases c4 : t181 = true
 ·subst c4
  have H1 : (impl_GraphView.l0 k a1 l0_0 (l0_0.length : Int) 0 l0_0 l0_1 ([] : List (S36))) = some (r1, r2) := by rw [if_pos rfl] at H; exact H
  clear H
  have H := H1
  clear H1
  have H' := Aside0.mk H
  clear H
  go_enter Try.func36, Try.ntmps36
  go_wp2_with (first | ((with_reducible refine gd 2 rfl ?_); refine bx 2 (cs := #[.slice A0_0 l0_0.length c0_0, .slice A0_1 l0_1.length c0_1]) (t := 34) ?_; intro gb178 hg w5 hbox hb; have BK178 := Aside0.mk (hbox); have GW178 := gwb HB hg; replace HB := hs HB hb; clear hb hbox hg) | ((with_reducible refine gd 4 rfl ?_); refine bx 4 (cs := #[.slice none 0 0, .slice none 0 0]) (t := 34) ?_; intro gb179 hg w6 hbox hb; have BK179 := Aside0.mk (hbox); have GW179 := gwb HB hg; replace HB := hs HB hb; have NB178_179 := nq BK178 hg; have NB179_178 := nq' BK178 hg; replace BK178 := bb BK178 hb rfl; clear hb hbox hg) | ((with_reducible refine gd 5 rfl ?_); refine bx 5 (cs := #[.slice none 0 0, .slice none 0 0]) (t := 34) ?_; intro gb180 hg w7 hbox hb; have BK180 := Aside0.mk (hbox); have GW180 := gwb HB hg; replace HB := hs HB hb; have NB178_180 := nq BK178 hg; have NB180_178 := nq' BK178 hg; replace BK178 := bb BK178 hb rfl; have NB179_180 := nq BK179 hg; have NB180_179 := nq' BK179 hg; replace BK179 := bb BK179 hb rfl; clear hb hbox hg; have hnb8 := NB178_179.out; have hnc8 := NB179_178.out; have hnb9 := NB178_180.out; have hnc9 := NB180_178.out; obtain ⟨hcz10_0, hcz10_1⟩ := bc2 (w := w7) BK178.out; have hfz10 := blk_frozen BK178.out) | ((with_reducible refine gc 34 rfl ?_); refine gl 11 Try.func34 #[.agg #[.slice A0_0 l0_0.length c0_0, .slice A0_1 l0_1.length c0_1]] ?_; (with_reducible refine (impl_GraphOk.calls k _ _ l0_0 _ _ l0_1 true _ ?side1 ?side2 ?side3 ?side4 A3.out).mono ?_); (case side1 => exact Kd.C_below HR0_0.out (bs HB.out)); (case side2 => exact HC0_0.out); (case side3 => exact Kd.C_below HR0_1.out (bs HB.out)); (case side4 => exact HC0_1.out); rintro e w11 ⟨rfl, hb⟩; refine ⟨_, rfl, ?_⟩; replace BK178 := bb BK178 hb rfl; replace BK179 := bb BK179 hb rfl; replace BK180 := bb BK180 hb rfl; replace HB := hs HB hb; (try clear hb); obtain ⟨hcz12_0, hcz12_1⟩ := bc2 (w := w11) BK178.out; have hfz12 := blk_frozen BK178.out))
  go_loopg [17] k (fun kq v17 w' => ∃ (x17_1 : Int) (x181000_1 : List (S36)) (u181000 : Value), v17 = .int .i64 x17_1 ∧ Aside0 (impl_GraphView.l0 kq a1 l0_0 (l0_0.length : Int) x17_1 l0_0 l0_1 x181000_1 = some (r1, r2)) ∧ Aside0 (kq ≤ k) ∧ Aside0 (Kd.R k36 36 w' w.heap.size (fun _ => True) u181000 x181000_1) ∧ Aside0 (w'.heap[gb178]? = some (.cells #[(.slice A0_0 l0_0.length c0_0), (.slice A0_1 l0_1.length c0_1)] 34 (0, 0))) ∧ Aside0 (w'.heap[gb179]? = some (.cells #[(.slice none 0 0), (.slice none 0 0)] 34 (0, 0))) ∧ Aside0 (w'.heap[gb180]? = some (.cells #[u181000, (.slice none 0 0)] 34 (0, 0))) ∧ Aside0 (Below w.heap.size w w'))
  case atStart => exact ⟨(0), (([] : List (S36))), (.slice none 0 0), eqs, H', ⟨Nat.le_refl _⟩, ⟨by first | exact Kd.R_nil _ _ _ _ _ | exact Kd.N_nil _ _ _ _ _ | exact Kd.V_nil _ _ _ _ _ | exact Kd.Q_nil _ _ _ _ _ | exact Kd.S_nil _ _ _ _ _⟩, ⟨bf BK178.out⟩, ⟨bf BK179.out⟩, ⟨bf BK180.out⟩, ⟨bs HB.out⟩⟩
  case round =>
   clear H'
   try clear p2
   try clear c3
   try clear c4
   try clear c8
   try clear c9
   try clear hcz10_0 hcz10_1
   try clear hcz12_0 hcz12_1
   try clear hfz10
   try clear hfz12
   obtain ⟨x17_1, x181000_1, u181000, rfl, HA, HK1, HO_181000, BK178, BK179, BK180, HB⟩ := hrel
   cases gk with
   | zero => exact absurd HA.out (by simp [impl_GraphView.l0])
   | succ k1 =>
    have H := HA.out
    clear HA
    simp only [impl_GraphView.l0] at H
    by_cases c13 : x17_1 < (l0_0.length : Int)
    ·rw [if_pos c13] at H
     have c13b0 : decide (x17_1 < (l0_0.length : Int)) = true := decide_eq_true c13
     clear c13
     by_cases c14 : 0 ≤ x17_1
     ·rw [if_pos c14] at H
      have c14b0 : decide (0 ≤ x17_1) = true := decide_eq_true c14
      clear c14
      by_cases c15 : x17_1 < (l0_0.length : Int)
      ·rw [if_pos c15] at H
       have c15b0 : decide (x17_1 < (l0_0.length : Int)) = true := decide_eq_true c15
       clear c15
       replace H := Option.bind_eq_some_iff.mp H
       obtain ⟨t184, A160, H⟩ := H
       try dsimp -simprocs only at H
       have A16 := Aside0.mk A160
       clear A160
       by_cases c17 : t184 = true
       ·subst c17
        have H1 : (if x181000_1.length < 8796093022208 then (impl_GraphView.l0 k1 a1 l0_0 (l0_0.length : Int) (wrap64 (x17_1 + 1)) l0_0 l0_1 (x181000_1 ++ [(⟨(rd_T36 l0_0 x17_1).f0, (rd_T36 l0_0 x17_1).f1⟩ : S36)])) else (none)) = some (r1, r2) := by rw [if_pos rfl] at H; exact H
        clear H
        have H := H1
        clear H1
        by_cases c18 : x181000_1.length < 8796093022208
        ·rw [if_pos c18] at H
         have LMc18 := Aside0.mk c18
         clear c18
         obtain ⟨y185, hy185⟩ : ∃ y_ : List (S36), y_ = (x181000_1 ++ [(⟨(rd_T36 l0_0 x17_1).f0, (rd_T36 l0_0 x17_1).f1⟩ : S36)]) := ⟨_, rfl⟩
         replace H : (impl_GraphView.l0 k1 a1 l0_0 (l0_0.length : Int) (wrap64 (x17_1 + 1)) l0_0 l0_1 y185) = some (r1, r2) := by first | (rw [hy185]; exact H) | exact H
         have Ny185 := Aside0.mk hy185
         clear hy185
         have H' := Aside0.mk H
         clear H
         have p182 : 0 ≤ (x17_1 : Int) := oda
         have q182 : x17_1 < (l0_0.length : Int) := oda
         obtain ⟨ad182, e182, hx182_0, hx182_1⟩ := at_T36 HR0_0.out x17_1 p182 q182
         cases e182
         replace hx182_0 := cb HB hx182_0
         replace hx182_1 := cb HB hx182_1
         replace p182 := eq_true p182
         replace q182 := eq_true q182
         go_wp2_with (first | ((with_reducible refine gd 7 rfl ?_); refine bx 7 (cs := #[.int .i64 0, .int .i64 0]) (t := 36) ?_; intro gb183 hg w19 hbox hb; replace HO_181000 := Aside0.mk (Kd.R_below (Kd.R_elderB (rl HO_181000.out) gb183 (Nat.le_of_eq hg.symm)) hb); have BK183 := Aside0.mk (hbox); have GW183 := gwb HB hg; replace HB := hs HB hb; have NB178_183 := nq BK178 hg; have NB183_178 := nq' BK178 hg; replace BK178 := bb BK178 hb rfl; have NB179_183 := nq BK179 hg; have NB183_179 := nq' BK179 hg; replace BK179 := bb BK179 hb rfl; have NB180_183 := nq BK180 hg; have NB183_180 := nq' BK180 hg; replace BK180 := bb BK180 hb rfl; clear hb hbox hg; have hnb20 := NB183_178.out; have hnc20 := NB178_183.out; have hnb21 := NB183_179.out; have hnc21 := NB179_183.out; have hnb22 := NB183_180.out; have hnc22 := NB180_183.out; obtain ⟨hcz23_0, hcz23_1⟩ := bc2 (w := w19) BK183.out; have hfz23 := blk_frozen BK183.out) | ((with_reducible refine gc 47 rfl ?_); refine gl 24 Try.func47 #[.int .i64 ((rd_T36 l0_0 x17_1).f0), .int .i64 a1] ?_; (with_reducible refine (impl_LabelUnder.calls ((rd_T36 l0_0 x17_1).f0) a1 true _ A16.out).mono ?_); rintro e w' ⟨rfl, ⟨nd, rfl⟩⟩; refine ⟨_, rfl, ?_⟩; have hnb24 := NB180_178.out; have hnc24 := NB178_180.out; have hnb25 := NB180_179.out; have hnc25 := NB179_180.out; obtain ⟨hcz26_0, hcz26_1⟩ := bc2 (w := w19) BK180.out; have hfz26 := blk_frozen BK180.out) | ((with_reducible refine gate_builtin (b := .append) (xs := #[.tmp 26, .tmp 28]) rfl ?_); at_builtin; refine Kd.R_append k36 (w0 := w) w.heap.size rfl (.tmp 26) (.tmp 28) 29 36 (.agg #[(.int .i64 0), (.int .i64 0)]) 16 rfl Try.underlying29 info36 rfl (by decide) (by omega) u181000 x181000_1 (⟨(rd_T36 l0_0 x17_1).f0, (rd_T36 l0_0 x17_1).f1⟩ : S36) [.int .i64 ((rd_T36 l0_0 x17_1).f0), .int .i64 ((rd_T36 l0_0 x17_1).f1)] (fun k_ => k_ ≠ gb183) (fun _ => False) rfl (by first | (go_simp; done) | (go_simp; rfl)) ?aP (fun _ hk => hk.elim) ?aF ?aO ?aB ?aS ?aL ?_; (case aP => exact k36_mkM _ _ _ (⟨(rd_T36 l0_0 x17_1).f0, (rd_T36 l0_0 x17_1).f1⟩ : S36)); (case aB => exact (bs HB.out)); (case aF => exact (fun k_ hk => Kd.freshB (g := gb183) (o := .cells #[.int .i64 ((rd_T36 l0_0 x17_1).f0), .int .i64 ((rd_T36 l0_0 x17_1).f1)] 36 (0, 0)) (bp BK183.out rfl) k_ hk)); (case aO => exact (by (with_reducible repeat (first | apply Kd.R_alloc | apply Kd.R_drewN | apply Kd.R_drew)); exact Kd.R_mono (Kd.R_far (p := ⟨gb183, 1, none⟩) (Kd.R_far (p := ⟨gb183, 0, none⟩) (Kd.R_mono HO_181000.out (fun k_ hk => (⟨hk, hk.2⟩ : _ ∧ k_ ≠ gb183))) (fun _ hk => hk.2) (.int .i64 ((rd_T36 l0_0 x17_1).f0))) (fun _ hk => hk.2) (.int .i64 ((rd_T36 l0_0 x17_1).f1))) (fun _ hk => hk.1.2))); (case aS => exact (below_size (bs HB.out))); (case aL => have := LMc18.out; omega); intro v186 w27 ho hb hg hat; rw [← Ny185.out] at ho; replace BK178 := gr BK178 HO_181000 hg; replace BK179 := gr BK179 HO_181000 hg; replace BK180 := gr BK180 HO_181000 hg; replace BK183 := Aside0.mk (blk_grown (g := gb183) (o := .cells #[.int .i64 ((rd_T36 l0_0 x17_1).f0), .int .i64 ((rd_T36 l0_0 x17_1).f1)] 36 (0, 0)) (bp BK183.out rfl) hg (Kd.R_away HO_181000.out (fun _ hk => hk.2))); replace HB := Aside0.mk (hb); have HO187 := Aside0.mk (ho); clear HO_181000; clear ho hb hg hat; obtain ⟨Ao28, co28, eo28⟩ := Kd.R_slice HO187.out; subst eo28; obtain ⟨hcz29_0, hcz29_1⟩ := bc2 (w := w27) BK180.out; have hfz29 := blk_frozen BK180.out))
         go_roundg k1
         case measure => have := HK1.out; omega
         case rel => exact ⟨(wrap64 (x17_1 + 1)), (y185), (.slice Ao28 y185.length co28), eqs, H', ⟨by have := HK1.out; omega⟩, ⟨Kd.R_mono (rt HO187.out BK180.out (by decide)) (fun _ hk => trivial)⟩, ⟨bf BK178.out⟩, ⟨bf BK179.out⟩, ⟨by (with_reducible repeat (first | refine blk_drewN ?_ _ | refine blk_drew ?_ | refine blk_alloc ?_ _)); refine blk_put (cs := #[u181000, .slice none 0 0]) ?_ 0 _ rfl; exact bf BK180.out⟩, ⟨bs HB.out⟩⟩
        ·rw [if_neg c18] at H
         exact absurd H (by simp)
       ·replace c17 := Bool.eq_false_iff.mpr c17
        subst c17
        have H1 : (impl_GraphView.l0 k1 a1 l0_0 (l0_0.length : Int) (wrap64 (x17_1 + 1)) l0_0 l0_1 x181000_1) = some (r1, r2) := by rw [if_neg (show ¬ (false = true) by decide)] at H; exact H
        clear H
        have H := H1
        clear H1
        have H' := Aside0.mk H
        clear H
        have p182 : 0 ≤ (x17_1 : Int) := oda
        have q182 : x17_1 < (l0_0.length : Int) := oda
        obtain ⟨ad182, e182, hx182_0, hx182_1⟩ := at_T36 HR0_0.out x17_1 p182 q182
        cases e182
        replace hx182_0 := cb HB hx182_0
        replace hx182_1 := cb HB hx182_1
        replace p182 := eq_true p182
        replace q182 := eq_true q182
        go_wp2_with (first | ((with_reducible refine gd 7 rfl ?_); refine bx 7 (cs := #[.int .i64 0, .int .i64 0]) (t := 36) ?_; intro gb183 hg w30 hbox hb; replace HO_181000 := Aside0.mk (Kd.R_below (Kd.R_elderB (rl HO_181000.out) gb183 (Nat.le_of_eq hg.symm)) hb); have BK183 := Aside0.mk (hbox); have GW183 := gwb HB hg; replace HB := hs HB hb; have NB178_183 := nq BK178 hg; have NB183_178 := nq' BK178 hg; replace BK178 := bb BK178 hb rfl; have NB179_183 := nq BK179 hg; have NB183_179 := nq' BK179 hg; replace BK179 := bb BK179 hb rfl; have NB180_183 := nq BK180 hg; have NB183_180 := nq' BK180 hg; replace BK180 := bb BK180 hb rfl; clear hb hbox hg; have hnb31 := NB183_178.out; have hnc31 := NB178_183.out; have hnb32 := NB183_179.out; have hnc32 := NB179_183.out; have hnb33 := NB183_180.out; have hnc33 := NB180_183.out; obtain ⟨hcz34_0, hcz34_1⟩ := bc2 (w := w30) BK183.out; have hfz34 := blk_frozen BK183.out) | ((with_reducible refine gc 47 rfl ?_); refine gl 24 Try.func47 #[.int .i64 ((rd_T36 l0_0 x17_1).f0), .int .i64 a1] ?_; (with_reducible refine (impl_LabelUnder.calls ((rd_T36 l0_0 x17_1).f0) a1 false _ A16.out).mono ?_); rintro e w' ⟨rfl, ⟨nd, rfl⟩⟩; refine ⟨_, rfl, ?_⟩))
        go_roundg k1
        case measure => have := HK1.out; omega
        case rel => exact ⟨(wrap64 (x17_1 + 1)), (x181000_1), (u181000), eqs, H', ⟨by have := HK1.out; omega⟩, ⟨by (with_reducible repeat (first | apply Kd.R_alloc | apply Kd.R_drewN | apply Kd.R_drew)); exact Kd.R_mono (Kd.R_far (p := ⟨gb183, 1, none⟩) (Kd.R_far (p := ⟨gb183, 0, none⟩) (Kd.R_mono HO_181000.out (fun k_ hk => (⟨hk, hk.2⟩ : _ ∧ k_ ≠ gb183))) (fun _ hk => hk.2) (.int .i64 ((rd_T36 l0_0 x17_1).f0))) (fun _ hk => hk.2) (.int .i64 ((rd_T36 l0_0 x17_1).f1))) (fun _ hk => trivial)⟩, ⟨bf BK178.out⟩, ⟨bf BK179.out⟩, ⟨bf BK180.out⟩, ⟨bs HB.out⟩⟩
      ·rw [if_neg c15] at H
       exact absurd H (by simp)
     ·rw [if_neg c14] at H
      exact absurd H (by simp)
    ·rw [if_neg c13] at H
     have c13b0 : decide (x17_1 < (l0_0.length : Int)) = false := decide_eq_false c13
     clear c13
     have H' := Aside0.mk H
     clear H
     have hnb35 := NB178_179.out
     have hnc35 := NB179_178.out
     have hnb36 := NB178_180.out
     have hnc36 := NB180_178.out
     obtain ⟨hcz37_0, hcz37_1⟩ := bc2 (w := wr) BK178.out
     have hfz37 := blk_frozen BK178.out
     go_wp2
     go_loopg [35] k1 (fun kq v35 w' => ∃ (x35_2 : Int) (x181001_2 : List (S56)) (u181001 : Value), v35 = .int .i64 x35_2 ∧ Aside0 (impl_GraphView.l1 kq a1 l0_1 (l0_1.length : Int) x35_2 x181000_1 x181001_2 = some (r1, r2)) ∧ Aside0 (kq ≤ k1) ∧ Aside0 (Kd.R k36 36 w' w.heap.size (fun _ => True) u181000 x181000_1) ∧ Aside0 (Kd.R k56 56 w' w.heap.size (fun _ => True) u181001 x181001_2) ∧ Aside0 (w'.heap[gb178]? = some (.cells #[(.slice A0_0 l0_0.length c0_0), (.slice A0_1 l0_1.length c0_1)] 34 (0, 0))) ∧ Aside0 (w'.heap[gb179]? = some (.cells #[(.slice none 0 0), (.slice none 0 0)] 34 (0, 0))) ∧ Aside0 (w'.heap[gb180]? = some (.cells #[u181000, u181001] 34 (0, 0))) ∧ Aside0 (Below w.heap.size w w'))
     case atStart => exact ⟨(0), (([] : List (S56))), (.slice none 0 0), eqs, H', ⟨Nat.le_refl _⟩, ⟨rl HO_181000.out⟩, ⟨by first | exact Kd.R_nil _ _ _ _ _ | exact Kd.N_nil _ _ _ _ _ | exact Kd.V_nil _ _ _ _ _ | exact Kd.Q_nil _ _ _ _ _ | exact Kd.S_nil _ _ _ _ _⟩, ⟨bf BK178.out⟩, ⟨bf BK179.out⟩, ⟨bf BK180.out⟩, ⟨bs HB.out⟩⟩
     case round =>
      clear H'
      try clear c1
      try clear p1
      try clear q1
      try clear hx1
      try clear c2
      try clear p2
      try clear c3
      try clear c4
      try clear p6
      try clear c8
      try clear c9
      try clear c13
      try clear c13b0
      try clear c14
      try clear c14b0
      try clear c15
      try clear c15b0
      try clear c17
      try clear c18
      try clear p18
      try clear q18
      try clear hx18
      try clear c20
      try clear c21
      try clear c22
      try clear c24
      try clear c25
      try clear c31
      try clear c32
      try clear c33
      try clear c34
      try clear c35
      try clear c36
      try clear hcz10_0 hcz10_1
      try clear hcz12_0 hcz12_1
      try clear hcz23_0 hcz23_1
      try clear hcz26_0 hcz26_1
      try clear hcz29_0 hcz29_1
      try clear hcz34_0 hcz34_1
      try clear hcz37_0 hcz37_1
      try clear hfz10
      try clear hfz12
      try clear hfz23
      try clear hfz26
      try clear hfz29
      try clear hfz34
      try clear hfz37
      try clear hx182_0
      try clear hx182_1
      try clear p182
      try clear p2
      try clear q182
      obtain ⟨x35_2, x181001_2, u181001, rfl, HA, HK2, HO_181000, HO_181001, BK178, BK179, BK180, HB⟩ := hrel
      cases gk with
      | zero => exact absurd HA.out (by simp [impl_GraphView.l1])
      | succ k2 =>
       have H := HA.out
       clear HA
       simp only [impl_GraphView.l1] at H
       by_cases c38 : x35_2 < (l0_1.length : Int)
       ·rw [if_pos c38] at H
        have c38b0 : decide (x35_2 < (l0_1.length : Int)) = true := decide_eq_true c38
        clear c38
        by_cases c39 : 0 ≤ x35_2
        ·rw [if_pos c39] at H
         have c39b0 : decide (0 ≤ x35_2) = true := decide_eq_true c39
         clear c39
         by_cases c40 : x35_2 < (l0_1.length : Int)
         ·rw [if_pos c40] at H
          have c40b0 : decide (x35_2 < (l0_1.length : Int)) = true := decide_eq_true c40
          clear c40
          replace H := Option.bind_eq_some_iff.mp H
          obtain ⟨t190, A410, H⟩ := H
          try dsimp -simprocs only at H
          have A41 := Aside0.mk A410
          clear A410
          by_cases c42 : t190 = true
          ·subst c42
           have H1 : (if x181001_2.length < 3518437208883 then (impl_GraphView.l1 k2 a1 l0_1 (l0_1.length : Int) (wrap64 (x35_2 + 1)) x181000_1 (x181001_2 ++ [(⟨(rd_T56 l0_1 x35_2).f0, (⟨(rd_T56 l0_1 x35_2).f1.f0, (rd_T56 l0_1 x35_2).f1.f1⟩ : S36), (⟨(rd_T56 l0_1 x35_2).f2.f0, (rd_T56 l0_1 x35_2).f2.f1⟩ : S36)⟩ : S56)])) else (none)) = some (r1, r2) := by rw [if_pos rfl] at H; exact H
           clear H
           have H := H1
           clear H1
           by_cases c43 : x181001_2.length < 3518437208883
           ·rw [if_pos c43] at H
            have LMc43 := Aside0.mk c43
            clear c43
            obtain ⟨y191, hy191⟩ : ∃ y_ : List (S56), y_ = (x181001_2 ++ [(⟨(rd_T56 l0_1 x35_2).f0, (⟨(rd_T56 l0_1 x35_2).f1.f0, (rd_T56 l0_1 x35_2).f1.f1⟩ : S36), (⟨(rd_T56 l0_1 x35_2).f2.f0, (rd_T56 l0_1 x35_2).f2.f1⟩ : S36)⟩ : S56)]) := ⟨_, rfl⟩
            replace H : (impl_GraphView.l1 k2 a1 l0_1 (l0_1.length : Int) (wrap64 (x35_2 + 1)) x181000_1 y191) = some (r1, r2) := by first | (rw [hy191]; exact H) | exact H
            have Ny191 := Aside0.mk hy191
            clear hy191
            have H' := Aside0.mk H
            clear H
            have p188 : 0 ≤ (x35_2 : Int) := oda
            have q188 : x35_2 < (l0_1.length : Int) := oda
            obtain ⟨ad188, e188, hx188_0, hx188_1, hx188_2, hx188_3, hx188_4⟩ := at_T56 HR0_1.out x35_2 p188 q188
            cases e188
            replace hx188_0 := cb HB hx188_0
            replace hx188_1 := cb HB hx188_1
            replace hx188_2 := cb HB hx188_2
            replace hx188_3 := cb HB hx188_3
            replace hx188_4 := cb HB hx188_4
            replace p188 := eq_true p188
            replace q188 := eq_true q188
            go_wp2_with (first | ((with_reducible refine gd 9 rfl ?_); refine bx 9 (cs := #[.int .i64 0, .int .i64 0, .int .i64 0, .int .i64 0, .int .i64 0]) (t := 56) ?_; intro gb189 hg w44 hbox hb; replace HO_181000 := rb HO_181000 hb; replace HO_181001 := Aside0.mk (Kd.R_below (Kd.R_elderB (rl HO_181001.out) gb189 (Nat.le_of_eq hg.symm)) hb); have BK189 := Aside0.mk (hbox); have GW189 := gwb HB hg; replace HB := hs HB hb; have NB178_189 := nq BK178 hg; have NB189_178 := nq' BK178 hg; replace BK178 := bb BK178 hb rfl; have NB179_189 := nq BK179 hg; have NB189_179 := nq' BK179 hg; replace BK179 := bb BK179 hb rfl; have NB180_189 := nq BK180 hg; have NB189_180 := nq' BK180 hg; replace BK180 := bb BK180 hb rfl; clear hb hbox hg; have hnb45 := NB189_178.out; have hnc45 := NB178_189.out; have hnb46 := NB189_179.out; have hnc46 := NB179_189.out; have hnb47 := NB189_180.out; have hnc47 := NB180_189.out; obtain ⟨hcz48_0, hcz48_1, hcz48_2, hcz48_3, hcz48_4⟩ := bc5 (w := w44) BK189.out; have hfz48 := blk_frozen BK189.out) | ((with_reducible refine gc 47 rfl ?_); refine gl 42 Try.func47 #[.int .i64 ((rd_T56 l0_1 x35_2).f0), .int .i64 a1] ?_; (with_reducible refine (impl_LabelUnder.calls ((rd_T56 l0_1 x35_2).f0) a1 true _ A41.out).mono ?_); rintro e w' ⟨rfl, ⟨nd, rfl⟩⟩; refine ⟨_, rfl, ?_⟩; have hnb49 := NB180_178.out; have hnc49 := NB178_180.out; have hnb50 := NB180_179.out; have hnc50 := NB179_180.out; obtain ⟨hcz51_0, hcz51_1⟩ := bc2 (w := w44) BK180.out; have hfz51 := blk_frozen BK180.out) | ((with_reducible refine gate_builtin (b := .append) (xs := #[.tmp 44, .tmp 46]) rfl ?_); at_builtin; refine Kd.R_append k56 (w0 := w) w.heap.size rfl (.tmp 44) (.tmp 46) 32 56 (.agg #[(.int .i64 0), (.int .i64 0), (.int .i64 0), (.int .i64 0), (.int .i64 0)]) 40 rfl Try.underlying32 info56 rfl (by decide) (by omega) u181001 x181001_2 (⟨(rd_T56 l0_1 x35_2).f0, (⟨(rd_T56 l0_1 x35_2).f1.f0, (rd_T56 l0_1 x35_2).f1.f1⟩ : S36), (⟨(rd_T56 l0_1 x35_2).f2.f0, (rd_T56 l0_1 x35_2).f2.f1⟩ : S36)⟩ : S56) [.int .i64 ((rd_T56 l0_1 x35_2).f0), .int .i64 ((rd_T56 l0_1 x35_2).f1.f0), .int .i64 ((rd_T56 l0_1 x35_2).f1.f1), .int .i64 ((rd_T56 l0_1 x35_2).f2.f0), .int .i64 ((rd_T56 l0_1 x35_2).f2.f1)] (fun k_ => k_ ≠ gb189) (fun _ => False) rfl (by first | (go_simp; done) | (go_simp; rfl)) ?aP (fun _ hk => hk.elim) ?aF ?aO ?aB ?aS ?aL ?_; (case aP => exact k56_mkM _ _ _ (⟨(rd_T56 l0_1 x35_2).f0, (⟨(rd_T56 l0_1 x35_2).f1.f0, (rd_T56 l0_1 x35_2).f1.f1⟩ : S36), (⟨(rd_T56 l0_1 x35_2).f2.f0, (rd_T56 l0_1 x35_2).f2.f1⟩ : S36)⟩ : S56)); (case aB => exact (bs HB.out)); (case aF => exact (fun k_ hk => Kd.freshB (g := gb189) (o := .cells #[.int .i64 ((rd_T56 l0_1 x35_2).f0), .int .i64 ((rd_T56 l0_1 x35_2).f1.f0), .int .i64 ((rd_T56 l0_1 x35_2).f1.f1), .int .i64 ((rd_T56 l0_1 x35_2).f2.f0), .int .i64 ((rd_T56 l0_1 x35_2).f2.f1)] 56 (0, 0)) (bp BK189.out rfl) k_ hk)); (case aO => exact (by (with_reducible repeat (first | apply Kd.R_alloc | apply Kd.R_drewN | apply Kd.R_drew)); exact Kd.R_mono (Kd.R_far (p := ⟨gb189, 4, none⟩) (Kd.R_far (p := ⟨gb189, 3, none⟩) (Kd.R_far (p := ⟨gb189, 2, none⟩) (Kd.R_far (p := ⟨gb189, 1, none⟩) (Kd.R_far (p := ⟨gb189, 0, none⟩) (Kd.R_mono HO_181001.out (fun k_ hk => (⟨hk, hk.2⟩ : _ ∧ k_ ≠ gb189))) (fun _ hk => hk.2) (.int .i64 ((rd_T56 l0_1 x35_2).f0))) (fun _ hk => hk.2) (.int .i64 ((rd_T56 l0_1 x35_2).f1.f0))) (fun _ hk => hk.2) (.int .i64 ((rd_T56 l0_1 x35_2).f1.f1))) (fun _ hk => hk.2) (.int .i64 ((rd_T56 l0_1 x35_2).f2.f0))) (fun _ hk => hk.2) (.int .i64 ((rd_T56 l0_1 x35_2).f2.f1))) (fun _ hk => hk.1.2))); (case aS => exact (below_size (bs HB.out))); (case aL => have := LMc43.out; omega); intro v192 w52 ho hb hg hat; rw [← Ny191.out] at ho; replace HO_181000 := Aside0.mk (Kd.R_over' (by (with_reducible repeat (first | apply Kd.R_alloc | apply Kd.R_drewN | apply Kd.R_drew)); exact (rt HO_181000.out BK189.out (by decide))) (Kd.R_typed (by (with_reducible repeat (first | apply Kd.R_alloc | apply Kd.R_drewN | apply Kd.R_drew)); exact (Kd.R_mono (Kd.R_far (p := ⟨gb189, 4, none⟩) (Kd.R_far (p := ⟨gb189, 3, none⟩) (Kd.R_far (p := ⟨gb189, 2, none⟩) (Kd.R_far (p := ⟨gb189, 1, none⟩) (Kd.R_far (p := ⟨gb189, 0, none⟩) (Kd.R_mono HO_181001.out (fun k_ hk => (⟨hk, hk.2⟩ : _ ∧ k_ ≠ gb189))) (fun _ hk => hk.2) (.int .i64 ((rd_T56 l0_1 x35_2).f0))) (fun _ hk => hk.2) (.int .i64 ((rd_T56 l0_1 x35_2).f1.f0))) (fun _ hk => hk.2) (.int .i64 ((rd_T56 l0_1 x35_2).f1.f1))) (fun _ hk => hk.2) (.int .i64 ((rd_T56 l0_1 x35_2).f2.f0))) (fun _ hk => hk.2) (.int .i64 ((rd_T56 l0_1 x35_2).f2.f1))) (fun _ h_ => h_.1)))) (by decide) hg); replace BK178 := gr BK178 HO_181001 hg; replace BK179 := gr BK179 HO_181001 hg; replace BK180 := gr BK180 HO_181001 hg; replace BK189 := Aside0.mk (blk_grown (g := gb189) (o := .cells #[.int .i64 ((rd_T56 l0_1 x35_2).f0), .int .i64 ((rd_T56 l0_1 x35_2).f1.f0), .int .i64 ((rd_T56 l0_1 x35_2).f1.f1), .int .i64 ((rd_T56 l0_1 x35_2).f2.f0), .int .i64 ((rd_T56 l0_1 x35_2).f2.f1)] 56 (0, 0)) (bp BK189.out rfl) hg (Kd.R_away HO_181001.out (fun _ hk => hk.2))); replace HB := Aside0.mk (hb); have HO193 := Aside0.mk (ho); clear HO_181001; clear ho hb hg hat; obtain ⟨Ao53, co53, eo53⟩ := Kd.R_slice HO193.out; subst eo53; obtain ⟨hcz54_0, hcz54_1⟩ := bc2 (w := w52) BK180.out; have hfz54 := blk_frozen BK180.out))
            go_roundg k2
            case measure => have := HK1.out; have := HK2.out; omega
            case rel => exact ⟨(wrap64 (x35_2 + 1)), (y191), (.slice Ao53 y191.length co53), eqs, H', ⟨by have := HK1.out; have := HK2.out; omega⟩, ⟨Kd.R_mono (rt HO_181000.out BK180.out (by decide)) (fun _ hk => trivial)⟩, ⟨Kd.R_mono (rt HO193.out BK180.out (by decide)) (fun _ hk => trivial)⟩, ⟨bf BK178.out⟩, ⟨bf BK179.out⟩, ⟨by (with_reducible repeat (first | refine blk_drewN ?_ _ | refine blk_drew ?_ | refine blk_alloc ?_ _)); refine blk_put (cs := #[u181000, u181001]) ?_ 1 _ rfl; exact bf BK180.out⟩, ⟨bs HB.out⟩⟩
           ·rw [if_neg c43] at H
            exact absurd H (by simp)
          ·replace c42 := Bool.eq_false_iff.mpr c42
           subst c42
           have H1 : (impl_GraphView.l1 k2 a1 l0_1 (l0_1.length : Int) (wrap64 (x35_2 + 1)) x181000_1 x181001_2) = some (r1, r2) := by rw [if_neg (show ¬ (false = true) by decide)] at H; exact H
           clear H
           have H := H1
           clear H1
           have H' := Aside0.mk H
           clear H
           have p188 : 0 ≤ (x35_2 : Int) := oda
           have q188 : x35_2 < (l0_1.length : Int) := oda
           obtain ⟨ad188, e188, hx188_0, hx188_1, hx188_2, hx188_3, hx188_4⟩ := at_T56 HR0_1.out x35_2 p188 q188
           cases e188
           replace hx188_0 := cb HB hx188_0
           replace hx188_1 := cb HB hx188_1
           replace hx188_2 := cb HB hx188_2
           replace hx188_3 := cb HB hx188_3
           replace hx188_4 := cb HB hx188_4
           replace p188 := eq_true p188
           replace q188 := eq_true q188
           go_wp2_with (first | ((with_reducible refine gd 9 rfl ?_); refine bx 9 (cs := #[.int .i64 0, .int .i64 0, .int .i64 0, .int .i64 0, .int .i64 0]) (t := 56) ?_; intro gb189 hg w55 hbox hb; replace HO_181000 := rb HO_181000 hb; replace HO_181001 := Aside0.mk (Kd.R_below (Kd.R_elderB (rl HO_181001.out) gb189 (Nat.le_of_eq hg.symm)) hb); have BK189 := Aside0.mk (hbox); have GW189 := gwb HB hg; replace HB := hs HB hb; have NB178_189 := nq BK178 hg; have NB189_178 := nq' BK178 hg; replace BK178 := bb BK178 hb rfl; have NB179_189 := nq BK179 hg; have NB189_179 := nq' BK179 hg; replace BK179 := bb BK179 hb rfl; have NB180_189 := nq BK180 hg; have NB189_180 := nq' BK180 hg; replace BK180 := bb BK180 hb rfl; clear hb hbox hg; have hnb56 := NB189_178.out; have hnc56 := NB178_189.out; have hnb57 := NB189_179.out; have hnc57 := NB179_189.out; have hnb58 := NB189_180.out; have hnc58 := NB180_189.out; obtain ⟨hcz59_0, hcz59_1, hcz59_2, hcz59_3, hcz59_4⟩ := bc5 (w := w55) BK189.out; have hfz59 := blk_frozen BK189.out) | ((with_reducible refine gc 47 rfl ?_); refine gl 42 Try.func47 #[.int .i64 ((rd_T56 l0_1 x35_2).f0), .int .i64 a1] ?_; (with_reducible refine (impl_LabelUnder.calls ((rd_T56 l0_1 x35_2).f0) a1 false _ A41.out).mono ?_); rintro e w' ⟨rfl, ⟨nd, rfl⟩⟩; refine ⟨_, rfl, ?_⟩))
           go_roundg k2
           case measure => have := HK1.out; have := HK2.out; omega
           case rel => exact ⟨(wrap64 (x35_2 + 1)), (x181001_2), (u181001), eqs, H', ⟨by have := HK1.out; have := HK2.out; omega⟩, ⟨Kd.R_mono (rt HO_181000.out BK189.out (by decide)) (fun _ hk => trivial)⟩, ⟨by (with_reducible repeat (first | apply Kd.R_alloc | apply Kd.R_drewN | apply Kd.R_drew)); exact Kd.R_mono (Kd.R_far (p := ⟨gb189, 4, none⟩) (Kd.R_far (p := ⟨gb189, 3, none⟩) (Kd.R_far (p := ⟨gb189, 2, none⟩) (Kd.R_far (p := ⟨gb189, 1, none⟩) (Kd.R_far (p := ⟨gb189, 0, none⟩) (Kd.R_mono HO_181001.out (fun k_ hk => (⟨hk, hk.2⟩ : _ ∧ k_ ≠ gb189))) (fun _ hk => hk.2) (.int .i64 ((rd_T56 l0_1 x35_2).f0))) (fun _ hk => hk.2) (.int .i64 ((rd_T56 l0_1 x35_2).f1.f0))) (fun _ hk => hk.2) (.int .i64 ((rd_T56 l0_1 x35_2).f1.f1))) (fun _ hk => hk.2) (.int .i64 ((rd_T56 l0_1 x35_2).f2.f0))) (fun _ hk => hk.2) (.int .i64 ((rd_T56 l0_1 x35_2).f2.f1))) (fun _ hk => trivial)⟩, ⟨bf BK178.out⟩, ⟨bf BK179.out⟩, ⟨bf BK180.out⟩, ⟨bs HB.out⟩⟩
         ·rw [if_neg c40] at H
          exact absurd H (by simp)
        ·rw [if_neg c39] at H
         exact absurd H (by simp)
       ·rw [if_neg c38] at H
        have c38b0 : decide (x35_2 < (l0_1.length : Int)) = false := decide_eq_false c38
        clear c38
        simp only [Option.some.injEq, Prod.mk.injEq] at H
        obtain ⟨rfl, rfl⟩ := H
        have hnb60 := NB180_178.out
        have hnc60 := NB178_180.out
        have hnb61 := NB180_179.out
        have hnc61 := NB179_180.out
        obtain ⟨hcz62_0, hcz62_1⟩ := bc2 (w := wr) BK180.out
        have hfz62 := blk_frozen BK180.out
        obtain ⟨Ao63, co63, eo63⟩ := Kd.R_slice HO_181000.out
        subst eo63
        have hnb64 := NB179_178.out
        have hnc64 := NB178_179.out
        obtain ⟨hcz65_0, hcz65_1⟩ := bc2 (w := wr) BK179.out
        have hfz65 := blk_frozen BK179.out
        obtain ⟨Ao66, co66, eo66⟩ := Kd.R_slice HO_181001.out
        subst eo66
        go_wp2
        refine bodyPost_ret (results_cell_row rfl _ _ gb179 34 #[.slice Ao63 x181000_1.length co63, .slice Ao66 x181001_2.length co66] (0, 0) _ rfl (bp BK179.out rfl) Try.underlying34 rfl (by kernel_rfl)) rfl ?_
        exact ⟨_, _, eqr, Kd.R_mono (rt HO_181000.out BK179.out (by decide)) (fun _ hk => trivial), Kd.R_mono (rt HO_181001.out BK179.out (by decide)) (fun _ hk => trivial), bs HB.out⟩
 ·replace c4 := Bool.eq_false_iff.mpr c4
  subst c4
  have H1 : (some (([] : List (S36)), ([] : List (S56)))) = some (r1, r2) := by rw [if_neg (show ¬ (false = true) by decide)] at H; exact H
  clear H
  have H := H1
  clear H1
  simp only [Option.some.injEq, Prod.mk.injEq] at H
  obtain ⟨rfl, rfl⟩ := H
  go_enter Try.func36, Try.ntmps36
  go_wp2_with (first | ((with_reducible refine gd 2 rfl ?_); refine bx 2 (cs := #[.slice A0_0 l0_0.length c0_0, .slice A0_1 l0_1.length c0_1]) (t := 34) ?_; intro gb178 hg w67 hbox hb; have BK178 := Aside0.mk (hbox); have GW178 := gwb HB hg; replace HB := hs HB hb; clear hb hbox hg) | ((with_reducible refine gd 4 rfl ?_); refine bx 4 (cs := #[.slice none 0 0, .slice none 0 0]) (t := 34) ?_; intro gb179 hg w68 hbox hb; have BK179 := Aside0.mk (hbox); have GW179 := gwb HB hg; replace HB := hs HB hb; have NB178_179 := nq BK178 hg; have NB179_178 := nq' BK178 hg; replace BK178 := bb BK178 hb rfl; clear hb hbox hg) | ((with_reducible refine gd 5 rfl ?_); refine bx 5 (cs := #[.slice none 0 0, .slice none 0 0]) (t := 34) ?_; intro gb180 hg w69 hbox hb; have BK180 := Aside0.mk (hbox); have GW180 := gwb HB hg; replace HB := hs HB hb; have NB178_180 := nq BK178 hg; have NB180_178 := nq' BK178 hg; replace BK178 := bb BK178 hb rfl; have NB179_180 := nq BK179 hg; have NB180_179 := nq' BK179 hg; replace BK179 := bb BK179 hb rfl; clear hb hbox hg; have hnb70 := NB178_179.out; have hnc70 := NB179_178.out; have hnb71 := NB178_180.out; have hnc71 := NB180_178.out; obtain ⟨hcz72_0, hcz72_1⟩ := bc2 (w := w69) BK178.out; have hfz72 := blk_frozen BK178.out) | ((with_reducible refine gc 34 rfl ?_); refine gl 11 Try.func34 #[.agg #[.slice A0_0 l0_0.length c0_0, .slice A0_1 l0_1.length c0_1]] ?_; (with_reducible refine (impl_GraphOk.calls k _ _ l0_0 _ _ l0_1 false _ ?side1 ?side2 ?side3 ?side4 A3.out).mono ?_); (case side1 => exact Kd.C_below HR0_0.out (bs HB.out)); (case side2 => exact HC0_0.out); (case side3 => exact Kd.C_below HR0_1.out (bs HB.out)); (case side4 => exact HC0_1.out); rintro e w73 ⟨rfl, hb⟩; refine ⟨_, rfl, ?_⟩; replace BK178 := bb BK178 hb rfl; replace BK179 := bb BK179 hb rfl; replace BK180 := bb BK180 hb rfl; replace HB := hs HB hb; (try clear hb); have hnb74 := NB180_179.out; have hnc74 := NB179_180.out; obtain ⟨hcz75_0, hcz75_1⟩ := bc2 (w := w73) BK180.out; have hfz75 := blk_frozen BK180.out; obtain ⟨hcz76_0, hcz76_1⟩ := bc2 (w := w73) BK179.out; have hfz76 := blk_frozen BK179.out))
  refine bodyPost_ret (results_cell_row rfl _ _ gb179 34 #[.slice none 0 0, .slice none 0 0] (0, 0) _ rfl (bp BK179.out rfl) Try.underlying34 rfl (by kernel_rfl)) rfl ?_
  exact ⟨_, _, eqr, by first | exact Kd.R_nil _ _ _ _ _ | exact Kd.N_nil _ _ _ _ _ | exact Kd.V_nil _ _ _ _ _ | exact Kd.Q_nil _ _ _ _ _ | exact Kd.S_nil _ _ _ _ _, by first | exact Kd.R_nil _ _ _ _ _ | exact Kd.N_nil _ _ _ _ _ | exact Kd.V_nil _ _ _ _ _ | exact Kd.Q_nil _ _ _ _ _ | exact Kd.S_nil _ _ _ _ _, bs HB.out⟩

end Go.Proofs.Ytohmemckdogljaa.QFnGraphView
