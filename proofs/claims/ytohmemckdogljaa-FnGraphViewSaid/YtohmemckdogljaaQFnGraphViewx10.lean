/- Contracts of the Go functions that this law reaches: each does what its plain Lean function says. No condition. -/
import Derived.Test.YtohmemckdogljaaQFnGraphViewx0
import Derived.Test.YtohmemckdogljaaQFnGraphViewx8
import Derived.Test.YtohmemckdogljaaQFnGraphViewx9
namespace Go.Proofs.Ytohmemckdogljaa.QFnGraphView
open Go.RowKit Go.Proofs.YtohmemckdogljaaW.PrintWords Go.Proofs.YtohmemckdogljaaW.PrintLast Go.Proofs.YtohmemckdogljaaW.PrintMore Go.Proofs.Ytohmemckdogljaa.Bl
attribute [local go_sem] max2_int min2_int max_two min_two max_three min_three max_four min_four   -- for this text's walks alone
set_option linter.unusedVariables false
set_option linter.unusedSimpArgs false
set_option maxHeartbeats 8000000
set_option maxRecDepth 100000

/-! ### spec_l2Op: function 89 -/
def spec_l2Op.j0 : Nat → List Int → Int → Int → Int → Int → Int → Int → Int → Int → Int → Option (Int × Int × Int × Int × Int × Int × Int × Int × Int)
 | 0, _, _, _, _, _, _, _, _, _, _ => none
 | k + 1, x1000, x1001, x259000, x259001, x259002, x259003, x259004, x259005, x259006, x259007 => (spec_l9Rd_pick.f k x1000 x1001 60).bind fun bt287 => (if bt287.1 = 0 then ((spec_l9Rd_num.f k x1000 bt287.2 (([0, 5, (-1), 2] : List Int))).bind fun bt292 => (some (bt292.1, x259001, x259002, x259003, x259004, x259005, x259006, x259007, bt292.2))) else (if bt287.1 = 1 then ((spec_l9Rd_num.f k x1000 bt287.2 (([(-1), 41, 5] : List Int))).bind fun bt297 => (some (x259000, x259001, bt297.1, x259003, x259004, x259005, x259006, x259007, bt297.2))) else (if bt287.1 = 2 then ((spec_l9Rd_num.f k x1000 bt287.2 (([0, 8, (-1)] : List Int))).bind fun bt302 => (some (x259000, x259001, x259002, bt302.1, x259004, x259005, x259006, x259007, bt302.2))) else (if bt287.1 = 3 then (some (x259000, x259001, x259002, x259003, x259004, x259005, x259004, x259005, bt287.2)) else (some (x259000, x259001, x259002, x259003, x259004, x259005, x259006, x259007, bt287.2))))))
def spec_l2Op.f (k : Nat) (s0_0 : List Int) (s0_1 : Int) (l1_0 : List (S36)) (l1_1 : List (S56)) : Option (Int × Int × Int × Int × Int × Int × Int × Int × Int) := (spec_l9Rd_num.f k s0_0 s0_1 (([1, 2, 2, 1, 2, 3, 4, 2] : List Int))).bind fun bt256 => (if bt256.1 = 1 then ((spec_l2Node.f k s0_0 bt256.2).bind fun bt259 => (spec_l2Op.j0 k s0_0 bt259.2.2 bt256.1 bt259.1 bt259.2.1 0 0 0 0 0)) else (if bt256.1 = 2 then ((spec_l2Edge.f k s0_0 bt256.2 l1_0 l1_1).bind fun bt262 => (spec_l2Op.j0 k s0_0 bt262.2.2.2.2.2 bt256.1 0 0 bt262.1 bt262.2.1 bt262.2.2.1 bt262.2.2.2.1 bt262.2.2.2.2.1)) else (if bt256.1 = 3 then ((spec_l2Edge.f k s0_0 bt256.2 l1_0 l1_1).bind fun bt268 => (if (l1_1.length : Int) > 0 then ((spec_l9Rd_pick.f k s0_0 bt268.2.2.2.2.2 4).bind fun bt274 => (if bt274.1 > 0 then ((spec_l9Rd_pick.f k s0_0 bt274.2 (l1_1.length : Int)).bind fun bt276 => (if 0 ≤ bt276.1 then (if bt276.1 < (l1_1.length : Int) then (spec_l2Op.j0 k s0_0 bt276.2 bt256.1 0 0 ((rd_T56 l1_1 bt276.1).f0) ((rd_T56 l1_1 bt276.1).f1.f0) ((rd_T56 l1_1 bt276.1).f1.f1) ((rd_T56 l1_1 bt276.1).f2.f0) ((rd_T56 l1_1 bt276.1).f2.f1)) else (none)) else (none))) else (spec_l2Op.j0 k s0_0 bt274.2 bt256.1 0 0 bt268.1 bt268.2.1 bt268.2.2.1 bt268.2.2.2.1 bt268.2.2.2.2.1))) else (spec_l2Op.j0 k s0_0 bt268.2.2.2.2.2 bt256.1 0 0 bt268.1 bt268.2.1 bt268.2.2.1 bt268.2.2.2.1 bt268.2.2.2.2.1))) else (if bt256.1 = 4 then ((spec_l2Node.f k s0_0 bt256.2).bind fun bt279 => (if (l1_0.length : Int) > 0 then ((spec_l9Rd_pick.f k s0_0 bt279.2.2 2).bind fun bt282 => (if bt282.1 > 0 then ((spec_l9Rd_pick.f k s0_0 bt282.2 (l1_0.length : Int)).bind fun bt284 => (if 0 ≤ bt284.1 then (if bt284.1 < (l1_0.length : Int) then (spec_l2Op.j0 k s0_0 bt284.2 bt256.1 ((rd_T36 l1_0 bt284.1).f0) ((rd_T36 l1_0 bt284.1).f1) 0 0 0 0 0) else (none)) else (none))) else (spec_l2Op.j0 k s0_0 bt282.2 bt256.1 bt279.1 bt279.2.1 0 0 0 0 0))) else (spec_l2Op.j0 k s0_0 bt279.2.2 bt256.1 bt279.1 bt279.2.1 0 0 0 0 0))) else (spec_l2Op.j0 k s0_0 bt256.2 bt256.1 0 0 0 0 0 0 0)))))
def spec_l2Op.T10 : Bool × List (List Nat × List Nat) := (true, [([], []), ([0], [0]), ([], []), ([], []), ([3], [3]), ([4], [4]), ([2, 5], [2, 5]), ([1, 6], [1, 6]), ([7], [7]), ([0, 1, 2, 3, 4, 5, 6, 7, 8], []), ([9, 8, 6, 0, 1, 2, 3, 4, 5, 6, 7, 8], [8, 9])])
def spec_l2Op.B10 : List Nat := [0, 1, 0, 0, 8, 24, 60, 127, 255, 511, 1023]
theorem spec_l2Op.tab10 : rtab .any (opsOf Try.f89 10) = spec_l2Op.T10 := by kernel_rfl
theorem spec_l2Op.bits10 : waitsOk spec_l2Op.T10.2 spec_l2Op.B10 = true := by kernel_rfl
def spec_l2Op.T14 : Bool × List (List Nat × List Nat) := (true, [([], []), ([0], [0]), ([], []), ([], []), ([3], [3]), ([4], [4]), ([2, 5], [2, 5]), ([1, 6], [1, 6]), ([7], [7]), ([0, 1, 2, 3, 4, 5, 6, 7, 8], []), ([9, 8, 6, 0, 1, 2, 3, 4, 5, 6, 7, 8], [8, 9])])
def spec_l2Op.B14 : List Nat := [0, 1, 0, 0, 8, 24, 60, 127, 255, 511, 1023]
theorem spec_l2Op.tab14 : rtab .any (opsOf Try.f89 14) = spec_l2Op.T14 := by kernel_rfl
theorem spec_l2Op.bits14 : waitsOk spec_l2Op.T14.2 spec_l2Op.B14 = true := by kernel_rfl
theorem spec_l2Op.calls (k : Nat) (g : Nat) (s0_0 : List Int) (s0_1 : Int) (A1_0 : Option Addr) (c1_0 : Nat) (l1_0 : List (S36)) (A1_1 : Option Addr) (c1_1 : Nat) (l1_1 : List (S56)) (r1 : Int) (r2 : Int) (r3 : Int) (r4 : Int) (r5 : Int) (r6 : Int) (r7 : Int) (r8 : Int) (r9 : Int) (w0 w : World) (hI : IsS126 w0 w g s0_0 s0_1) (hB : Below w0.heap.size w0 w) (hr1_0 : ∀ W_, KeepBut w W_ g none → Kd.C k36 W_ A1_0 l1_0.length l1_0) (hc1_0 : l1_0.length ≤ c1_0) (hr1_1 : ∀ W_, KeepBut w W_ g none → Kd.C k56 W_ A1_1 l1_1.length l1_1) (hc1_1 : l1_1.length ≤ c1_1) (h : spec_l2Op.f k s0_0 s0_1 l1_0 l1_1 = some (r1, r2, r3, r4, r5, r6, r7, r8, r9)) :
  Calls Try.prog 89 #[.pointer (some ⟨g, 0, none⟩), .agg #[.slice A1_0 l1_0.length c1_0, .slice A1_1 l1_1.length c1_1]] w fun e w' => e = .returned (.agg #[.int .i64 r1, .int .i64 r2, .int .i64 r3, .int .i64 r4, .int .i64 r5, .int .i64 r6, .int .i64 r7, .int .i64 r8]) ∧ IsS126 w0 w' g s0_0 r9 ∧ Below w0.heap.size w0 w' ∧ KeepBut w w' g none := by
 have hu34 := Try.underlying34
 have hu58 := Try.underlying58
 have hu36 := Try.underlying36
 have hu56 := Try.underlying56
 have HR1_0 := Aside0.mk hr1_0
 have HC1_0 := Aside0.mk hc1_0
 clear hr1_0 hc1_0
 have HR1_1 := Aside0.mk hr1_1
 have HC1_1 := Aside0.mk hc1_1
 clear hr1_1 hc1_1
 have HI0 := Aside0.mk hI
 have GEg_ : Ge w0 g := ⟨IsS126.ge HI0.out⟩
 have HK := Aside0.mk (KeepBut.refl w g none)
 have HL := Aside0.mk hB.size
 clear hI
 have HW0 := Aside0.mk hB.size
 have HB := Aside0.mk hB
 clear hB
 have H := h; unfold spec_l2Op.f at H
 clear h
 obtain ⟨y253, hy253⟩ : ∃ y_ : List Int, y_ = (([1, 2, 2, 1, 2, 3, 4, 2] : List Int)) := ⟨_, rfl⟩
 replace H : ((spec_l9Rd_num.f k s0_0 s0_1 y253).bind fun bt256 => (if bt256.1 = 1 then ((spec_l2Node.f k s0_0 bt256.2).bind fun bt259 => (spec_l2Op.j0 k s0_0 bt259.2.2 bt256.1 bt259.1 bt259.2.1 0 0 0 0 0)) else (if bt256.1 = 2 then ((spec_l2Edge.f k s0_0 bt256.2 l1_0 l1_1).bind fun bt262 => (spec_l2Op.j0 k s0_0 bt262.2.2.2.2.2 bt256.1 0 0 bt262.1 bt262.2.1 bt262.2.2.1 bt262.2.2.2.1 bt262.2.2.2.2.1)) else (if bt256.1 = 3 then ((spec_l2Edge.f k s0_0 bt256.2 l1_0 l1_1).bind fun bt268 => (if (l1_1.length : Int) > 0 then ((spec_l9Rd_pick.f k s0_0 bt268.2.2.2.2.2 4).bind fun bt274 => (if bt274.1 > 0 then ((spec_l9Rd_pick.f k s0_0 bt274.2 (l1_1.length : Int)).bind fun bt276 => (if 0 ≤ bt276.1 then (if bt276.1 < (l1_1.length : Int) then (spec_l2Op.j0 k s0_0 bt276.2 bt256.1 0 0 ((rd_T56 l1_1 bt276.1).f0) ((rd_T56 l1_1 bt276.1).f1.f0) ((rd_T56 l1_1 bt276.1).f1.f1) ((rd_T56 l1_1 bt276.1).f2.f0) ((rd_T56 l1_1 bt276.1).f2.f1)) else (none)) else (none))) else (spec_l2Op.j0 k s0_0 bt274.2 bt256.1 0 0 bt268.1 bt268.2.1 bt268.2.2.1 bt268.2.2.2.1 bt268.2.2.2.2.1))) else (spec_l2Op.j0 k s0_0 bt268.2.2.2.2.2 bt256.1 0 0 bt268.1 bt268.2.1 bt268.2.2.1 bt268.2.2.2.1 bt268.2.2.2.2.1))) else (if bt256.1 = 4 then ((spec_l2Node.f k s0_0 bt256.2).bind fun bt279 => (if (l1_0.length : Int) > 0 then ((spec_l9Rd_pick.f k s0_0 bt279.2.2 2).bind fun bt282 => (if bt282.1 > 0 then ((spec_l9Rd_pick.f k s0_0 bt282.2 (l1_0.length : Int)).bind fun bt284 => (if 0 ≤ bt284.1 then (if bt284.1 < (l1_0.length : Int) then (spec_l2Op.j0 k s0_0 bt284.2 bt256.1 ((rd_T36 l1_0 bt284.1).f0) ((rd_T36 l1_0 bt284.1).f1) 0 0 0 0 0) else (none)) else (none))) else (spec_l2Op.j0 k s0_0 bt282.2 bt256.1 bt279.1 bt279.2.1 0 0 0 0 0))) else (spec_l2Op.j0 k s0_0 bt279.2.2 bt256.1 bt279.1 bt279.2.1 0 0 0 0 0))) else (spec_l2Op.j0 k s0_0 bt256.2 bt256.1 0 0 0 0 0 0 0)))))) = some (r1, r2, r3, r4, r5, r6, r7, r8, r9) := by first | (rw [hy253]; exact H) | exact H
 have Ny253 := Aside0.mk hy253
 clear hy253
 replace H := Option.bind_eq_some_iff.mp H
 obtain ⟨⟨t256, t257⟩, A30, H⟩ := H
 try dsimp -simprocs only at H
 have A3 := Aside0.mk A30
 clear A30
 have HC4 := Aside0.mk H
 clear H
 go_enter Try.func89, Try.ntmps89
 go_upto_block 0 with (first | ((with_reducible refine gd 3 rfl ?_); refine bx 3 (cs := #[.slice A1_0 l1_0.length c1_0, .slice A1_1 l1_1.length c1_1]) (t := 34) ?_; intro gb251 hg w5 hbox hb; replace HB := hs HB hb; have BK251 := Aside0.mk (hbox); have GW251 := gwk HK hg; have GE251 := gew HW0 GW251; replace HK := kb HK hb; have NB0_251 := nlt HI0 hg; have NB251_0 := nsy NB0_251; replace HI0 := ib HI0 hb; clear hb hbox hg) | ((with_reducible refine gd 4 rfl ?_); refine bx 4 (cs := #[.int .i64 0, .int .i64 0, .int .i64 0, .int .i64 0, .int .i64 0, .int .i64 0, .int .i64 0, .int .i64 0]) (t := 58) ?_; intro gb252 hg w6 hbox hb; replace HB := hs HB hb; have BK252 := Aside0.mk (hbox); have GW252 := gwk HK hg; have GE252 := gew HW0 GW252; replace HK := kb HK hb; have NB251_252 := nq BK251 hg; have NB252_251 := nq' BK251 hg; replace BK251 := bb BK251 hb rfl; have NB0_252 := nlt HI0 hg; have NB252_0 := nsy NB0_252; replace HI0 := ib HI0 hb; clear hb hbox hg) | ((with_reducible refine gd 7 rfl ?_); refine rli (k := .i64) 3 7 ([1, 2, 2, 1, 2, 3, 4, 2] : List Int) ?_; intro v254 w7 ho8 hb hg_ hnew_; clear hg_ hnew_; (first | rw [← Ny253.out] at ho8 | (simp only [Int.reduceToNat] at ho8; rw [← Ny253.out] at ho8)); have HO255 := Aside0.mk (Kd.R_lower ho8 (keep_size (w := w) (g := g) (row := none) (ks HK.out))); replace HI0 := ib HI0 hb; replace BK251 := bb BK251 hb rfl; replace BK252 := bb BK252 hb rfl; replace HK := kb HK hb; replace HB := hs HB hb; clear hb ho8; obtain ⟨Ao9, co9, eo9⟩ := Kd.R_slice HO255.out; subst eo9) | ((with_reducible refine gc 119 rfl ?_); refine gl 8 Try.func119 #[.pointer (some ⟨g, 0, none⟩), .slice Ao9 y253.length co9] ?_; (with_reducible refine (spec_l9Rd_num.calls k g s0_0 s0_1 _ _ y253 t256 t257 w0 _ ?side1 ?side2 ?side3 ?side4 ?side5 A3.out).mono ?_); (case side1 => exact iis HI0.out); (case side2 => exact bs HB.out); (case side3 => exact cr HO255); (case side4 => exact (Kd.R_reads' HO255.out).2.1); (case side5 => exact far_slice (IsS126.own_ne HI0.out HO255.out (by decide))); rintro e w10 ⟨rfl, hi, hb, hk⟩; refine ⟨_, rfl, ?_⟩; replace BK251 := kk BK251 hk; replace BK252 := kk BK252 hk; replace HO255 := ro HO255 HI0 hk; replace HK := kt HK hk; replace HB := Aside0.mk (hb); replace HI0 := Aside0.mk (hi); (try clear hi hb hk)) | ((with_reducible refine gd 5 rfl ?_); refine bx 5 (cs := #[.int .i64 0, .int .i64 0, .int .i64 0, .int .i64 0, .int .i64 0, .int .i64 0, .int .i64 0, .int .i64 0]) (t := 58) ?_; intro gb258 hg w11 hbox hb; replace HO255 := rb HO255 hb; replace HB := hs HB hb; have BK258 := Aside0.mk (hbox); have GW258 := gwk HK hg; have GE258 := gew HW0 GW258; replace HK := kb HK hb; have NB251_258 := nq BK251 hg; have NB258_251 := nq' BK251 hg; replace BK251 := bb BK251 hb rfl; have NB252_258 := nq BK252 hg; have NB258_252 := nq' BK252 hg; replace BK252 := bb BK252 hb rfl; have NB0_258 := nlt HI0 hg; have NB258_0 := nsy NB0_258; replace HI0 := ib HI0 hb; clear hb hbox hg; have hnb12 := NB258_251.out; have hnc12 := NB251_258.out; have hnb13 := NB258_252.out; have hnc13 := NB252_258.out; have hnb14 := NB258_0.out; have hnc14 := NB0_258.out; obtain ⟨hcz15_0, hcz15_1, hcz15_2, hcz15_3, hcz15_4, hcz15_5, hcz15_6, hcz15_7⟩ := bc8 (w := w11) BK258.out; have hfz15 := blk_frozen BK258.out))
 (try simp only [Act.put, List.setIfInBounds_toArray, List.set_cons_zero, List.set_cons_succ])
 go_cut [] (fun wc => ∃ (kq : Nat) (x1001_3 : Int) (x259001_3 : Int) (x259002_3 : Int) (x259003_3 : Int) (x259004_3 : Int) (x259005_3 : Int) (x259006_3 : Int) (x259007_3 : Int), Aside0 (spec_l2Op.j0 kq s0_0 x1001_3 t256 x259001_3 x259002_3 x259003_3 x259004_3 x259005_3 x259006_3 x259007_3 = some (r1, r2, r3, r4, r5, r6, r7, r8, r9)) ∧ Aside0 (kq ≤ k) ∧ Aside0 (wc.heap[gb251]? = some (.cells #[(.slice A1_0 l1_0.length c1_0), (.slice A1_1 l1_1.length c1_1)] 34 (0, 0))) ∧ Aside0 (wc.heap[gb252]? = some (.cells #[.int .i64 0, .int .i64 0, .int .i64 0, .int .i64 0, .int .i64 0, .int .i64 0, .int .i64 0, .int .i64 0] 58 (0, 0))) ∧ Aside0 (wc.heap[gb258]? = some (.cells #[.int .i64 t256, .int .i64 x259001_3, .int .i64 x259002_3, .int .i64 x259003_3, .int .i64 x259004_3, .int .i64 x259005_3, .int .i64 x259006_3, .int .i64 x259007_3] 58 (0, 0))) ∧ Aside0 (IsS126 w0 wc g s0_0 x1001_3) ∧ Aside0 (KeepBut w wc g none) ∧ Aside0 (Below w0.heap.size w0 wc))
 case first =>
  have H := HC4.out
  clear HC4
  by_cases c16 : t256 = 1
  ·rw [if_pos c16] at H
   have c16b0 : (t256 == 1) = true := beq_iff_eq.mpr c16
   have c16b1 : (t256 != 1) = false := bne_eq_false_iff_eq.mpr c16
   clear c16
   (first | rw [c16b0] | (simp only [i64_w, i32_w]; rw [c16b0]) | skip)
   replace H := Option.bind_eq_some_iff.mp H
   obtain ⟨⟨t259, t260, t261⟩, A170, H⟩ := H
   try dsimp -simprocs only at H
   have A17 := Aside0.mk A170
   clear A170
   have H' := Aside0.mk H
   clear H
   go_wp2_with (first | ((with_reducible refine gc 121 rfl ?_); refine gl 15 Try.func121 #[.pointer (some ⟨g, 0, none⟩)] ?_; (with_reducible refine (spec_l2Node.calls k g s0_0 t257 t259 t260 t261 w0 _ ?side1 ?side2 A17.out).mono ?_); (case side1 => exact iis HI0.out); (case side2 => exact bs HB.out); rintro e w18 ⟨rfl, hi, hb, hk⟩; refine ⟨_, rfl, ?_⟩; replace BK251 := kk BK251 hk; replace BK252 := kk BK252 hk; replace HO255 := rp HO255 BK258 HI0 hk; replace BK258 := kp #[.int .i64 t256, .int .i64 0, .int .i64 0, .int .i64 0, .int .i64 0, .int .i64 0, .int .i64 0, .int .i64 0] BK258 hk; replace HK := kt HK hk; replace HB := Aside0.mk (hb); replace HI0 := Aside0.mk (hi); (try clear hi hb hk); have hnb19 := NB258_251.out; have hnc19 := NB251_258.out; have hnb20 := NB258_252.out; have hnc20 := NB252_258.out; have hnb21 := NB258_0.out; have hnc21 := NB0_258.out; obtain ⟨hcz22_0, hcz22_1, hcz22_2, hcz22_3, hcz22_4, hcz22_5, hcz22_6, hcz22_7⟩ := bc8 (w := w18) BK258.out; have hfz22 := blk_frozen BK258.out))
   go_meet
   case rel => exact ⟨_, (t261), (t259), (t260), (0), (0), (0), (0), (0), H', ⟨by first | omega | exact Nat.le_refl _⟩, ⟨bf BK251.out⟩, ⟨bf BK252.out⟩, ⟨by (with_reducible repeat (first | refine blk_drewN ?_ _ | refine blk_drew ?_ | refine blk_alloc ?_ _)); refine blk_put (cs := #[.int .i64 t256, .int .i64 t259, .int .i64 0, .int .i64 0, .int .i64 0, .int .i64 0, .int .i64 0, .int .i64 0]) ?_ 2 _ rfl; (with_reducible repeat (first | refine blk_drewN ?_ _ | refine blk_drew ?_ | refine blk_alloc ?_ _)); refine blk_put (cs := #[.int .i64 t256, .int .i64 0, .int .i64 0, .int .i64 0, .int .i64 0, .int .i64 0, .int .i64 0, .int .i64 0]) ?_ 1 _ rfl; exact bf BK258.out⟩, ⟨iis HI0.out⟩, ⟨ks HK.out⟩, ⟨bs HB.out⟩⟩
  ·rw [if_neg c16] at H
   have c16b0 : (t256 == 1) = false := beq_eq_false_iff_ne.mpr c16
   have c16b1 : (t256 != 1) = true := bne_iff_ne.mpr c16
   (first | rw [c16b0] | (simp only [i64_w, i32_w]; rw [c16b0]) | skip)
   by_cases c23 : t256 = 2
   ·rw [if_pos c23] at H
    have c23b0 : (t256 == 2) = true := beq_iff_eq.mpr c23
    have c23b1 : (t256 != 2) = false := bne_eq_false_iff_eq.mpr c23
    clear c23
    replace H := Option.bind_eq_some_iff.mp H
    obtain ⟨⟨t262, t263, t264, t265, t266, t267⟩, A240, H⟩ := H
    try dsimp -simprocs only at H
    have A24 := Aside0.mk A240
    clear A240
    have H' := Aside0.mk H
    clear H
    have hnb25 := NB251_252.out
    have hnc25 := NB252_251.out
    have hnb26 := NB251_258.out
    have hnc26 := NB258_251.out
    have hnb27 := NB251_0.out
    have hnc27 := NB0_251.out
    obtain ⟨hcz28_0, hcz28_1⟩ := bc2 (w := w11) BK251.out
    have hfz28 := blk_frozen BK251.out
    go_wp2_with (first | ((with_reducible refine gc 122 rfl ?_); refine gl 21 Try.func122 #[.pointer (some ⟨g, 0, none⟩), .agg #[.slice A1_0 l1_0.length c1_0, .slice A1_1 l1_1.length c1_1]] ?_; (with_reducible refine (spec_l2Edge.calls k g s0_0 t257 _ _ l1_0 _ _ l1_1 t262 t263 t264 t265 t266 t267 w0 _ ?side1 ?side2 ?side3 ?side4 ?side5 ?side6 A24.out).mono ?_); (case side1 => exact iis HI0.out); (case side2 => exact bs HB.out); (case side3 => exact Kd.C_foot_step HR1_0.out (ks HK.out)); (case side4 => exact HC1_0.out); (case side5 => exact Kd.C_foot_step HR1_1.out (ks HK.out)); (case side6 => exact HC1_1.out); rintro e w29 ⟨rfl, hi, hb, hk⟩; refine ⟨_, rfl, ?_⟩; replace BK251 := kk BK251 hk; replace BK252 := kk BK252 hk; replace HO255 := rp HO255 BK258 HI0 hk; replace BK258 := kp #[.int .i64 t256, .int .i64 0, .int .i64 0, .int .i64 0, .int .i64 0, .int .i64 0, .int .i64 0, .int .i64 0] BK258 hk; replace HK := kt HK hk; replace HB := Aside0.mk (hb); replace HI0 := Aside0.mk (hi); (try clear hi hb hk); have hnb30 := NB258_252.out; have hnc30 := NB252_258.out; have hnb31 := NB258_0.out; have hnc31 := NB0_258.out; obtain ⟨hcz32_0, hcz32_1, hcz32_2, hcz32_3, hcz32_4, hcz32_5, hcz32_6, hcz32_7⟩ := bc8 (w := w29) BK258.out; have hfz32 := blk_frozen BK258.out))
    go_meet
    case rel => exact ⟨_, (t267), (0), (0), (t262), (t263), (t264), (t265), (t266), H', ⟨by first | omega | exact Nat.le_refl _⟩, ⟨bf BK251.out⟩, ⟨bf BK252.out⟩, ⟨by (with_reducible repeat (first | refine blk_drewN ?_ _ | refine blk_drew ?_ | refine blk_alloc ?_ _)); refine blk_put (cs := #[.int .i64 t256, .int .i64 0, .int .i64 0, .int .i64 t262, .int .i64 t263, .int .i64 t264, .int .i64 t265, .int .i64 0]) ?_ 7 _ rfl; (with_reducible repeat (first | refine blk_drewN ?_ _ | refine blk_drew ?_ | refine blk_alloc ?_ _)); refine blk_put (cs := #[.int .i64 t256, .int .i64 0, .int .i64 0, .int .i64 t262, .int .i64 t263, .int .i64 t264, .int .i64 0, .int .i64 0]) ?_ 6 _ rfl; (with_reducible repeat (first | refine blk_drewN ?_ _ | refine blk_drew ?_ | refine blk_alloc ?_ _)); refine blk_put (cs := #[.int .i64 t256, .int .i64 0, .int .i64 0, .int .i64 t262, .int .i64 t263, .int .i64 0, .int .i64 0, .int .i64 0]) ?_ 5 _ rfl; (with_reducible repeat (first | refine blk_drewN ?_ _ | refine blk_drew ?_ | refine blk_alloc ?_ _)); refine blk_put (cs := #[.int .i64 t256, .int .i64 0, .int .i64 0, .int .i64 t262, .int .i64 0, .int .i64 0, .int .i64 0, .int .i64 0]) ?_ 4 _ rfl; (with_reducible repeat (first | refine blk_drewN ?_ _ | refine blk_drew ?_ | refine blk_alloc ?_ _)); refine blk_put (cs := #[.int .i64 t256, .int .i64 0, .int .i64 0, .int .i64 0, .int .i64 0, .int .i64 0, .int .i64 0, .int .i64 0]) ?_ 3 _ rfl; exact bf BK258.out⟩, ⟨iis HI0.out⟩, ⟨ks HK.out⟩, ⟨bs HB.out⟩⟩
   ·rw [if_neg c23] at H
    have c23b0 : (t256 == 2) = false := beq_eq_false_iff_ne.mpr c23
    have c23b1 : (t256 != 2) = true := bne_iff_ne.mpr c23
    by_cases c33 : t256 = 3
    ·rw [if_pos c33] at H
     have c33b0 : (t256 == 3) = true := beq_iff_eq.mpr c33
     have c33b1 : (t256 != 3) = false := bne_eq_false_iff_eq.mpr c33
     clear c33
     replace H := Option.bind_eq_some_iff.mp H
     obtain ⟨⟨t268, t269, t270, t271, t272, t273⟩, A340, H⟩ := H
     try dsimp -simprocs only at H
     have A34 := Aside0.mk A340
     clear A340
     by_cases c35 : (l1_1.length : Int) > 0
     ·rw [if_pos c35] at H
      have c35b0 : decide (0 < (l1_1.length : Int)) = true := decide_eq_true c35
      have c35b1 : decide (0 < l1_1.length) = true := decide_eq_true (by omega)
      clear c35
      replace H := Option.bind_eq_some_iff.mp H
      obtain ⟨⟨t274, t275⟩, A360, H⟩ := H
      try dsimp -simprocs only at H
      have A36 := Aside0.mk A360
      clear A360
      by_cases c37 : t274 > 0
      ·rw [if_pos c37] at H
       have c37b0 : decide (0 < t274) = true := decide_eq_true c37
       clear c37
       replace H := Option.bind_eq_some_iff.mp H
       obtain ⟨⟨t276, t277⟩, A380, H⟩ := H
       try dsimp -simprocs only at H
       have A38 := Aside0.mk A380
       clear A380
       by_cases c39 : 0 ≤ t276
       ·rw [if_pos c39] at H
        have c39b0 : decide (0 ≤ t276) = true := decide_eq_true c39
        clear c39
        by_cases c40 : t276 < (l1_1.length : Int)
        ·rw [if_pos c40] at H
         have c40b0 : decide (t276 < (l1_1.length : Int)) = true := decide_eq_true c40
         clear c40
         have H' := Aside0.mk H
         clear H
         have hnb41 := NB251_252.out
         have hnc41 := NB252_251.out
         have hnb42 := NB251_258.out
         have hnc42 := NB258_251.out
         have hnb43 := NB251_0.out
         have hnc43 := NB0_251.out
         obtain ⟨hcz44_0, hcz44_1⟩ := bc2 (w := w11) BK251.out
         have hfz44 := blk_frozen BK251.out
         try go_wp2_with (first | ((with_reducible refine gc 122 rfl ?_); refine gl 27 Try.func122 #[.pointer (some ⟨g, 0, none⟩), .agg #[.slice A1_0 l1_0.length c1_0, .slice A1_1 l1_1.length c1_1]] ?_; (with_reducible refine (spec_l2Edge.calls k g s0_0 t257 _ _ l1_0 _ _ l1_1 t268 t269 t270 t271 t272 t273 w0 _ ?side1 ?side2 ?side3 ?side4 ?side5 ?side6 A34.out).mono ?_); (case side1 => exact iis HI0.out); (case side2 => exact bs HB.out); (case side3 => exact Kd.C_foot_step HR1_0.out (ks HK.out)); (case side4 => exact HC1_0.out); (case side5 => exact Kd.C_foot_step HR1_1.out (ks HK.out)); (case side6 => exact HC1_1.out); rintro e w45 ⟨rfl, hi, hb, hk⟩; refine ⟨_, rfl, ?_⟩; replace BK251 := kk BK251 hk; replace BK252 := kk BK252 hk; replace HO255 := rp HO255 BK258 HI0 hk; replace BK258 := kp #[.int .i64 t256, .int .i64 0, .int .i64 0, .int .i64 0, .int .i64 0, .int .i64 0, .int .i64 0, .int .i64 0] BK258 hk; replace HK := kt HK hk; replace HB := Aside0.mk (hb); replace HI0 := Aside0.mk (hi); (try clear hi hb hk); have hnb46 := NB258_252.out; have hnc46 := NB252_258.out; have hnb47 := NB258_0.out; have hnc47 := NB0_258.out; obtain ⟨hcz48_0, hcz48_1, hcz48_2, hcz48_3, hcz48_4, hcz48_5, hcz48_6, hcz48_7⟩ := bc8 (w := w45) BK258.out; have hfz48 := blk_frozen BK258.out; obtain ⟨hcz49_0, hcz49_1⟩ := bc2 (w := w45) BK251.out; have hfz49 := blk_frozen BK251.out) | (go_at_call 120; (with_reducible refine (spec_l9Rd_pick.calls k g s0_0 t273 4 t274 t275 w0 _ ?side1 ?side2 A36.out).mono ?_); (case side1 => exact iis HI0.out); (case side2 => exact bs HB.out); rintro e w50 ⟨rfl, hi, hb, hk⟩; replace BK251 := kk BK251 hk; replace BK252 := kk BK252 hk; replace HO255 := rp HO255 BK258 HI0 hk; replace BK258 := kp #[.int .i64 t256, .int .i64 0, .int .i64 0, .int .i64 t268, .int .i64 t269, .int .i64 t270, .int .i64 t271, .int .i64 t272] BK258 hk; replace HK := kt HK hk; replace HB := Aside0.mk (hb); replace HI0 := Aside0.mk (hi); (try clear hi hb hk)))
         replace HO255 := rd_ HO255
         replace BK251 := bd BK251
         replace BK252 := bd BK252
         replace BK258 := bd BK258
         replace HI0 := Aside0.mk (IsS126.drew HI0.out)
         replace HK := Aside0.mk (keep_drew HK.out)
         replace HB := hd HB
         have p278 : 0 ≤ (t276 : Int) := oda
         have q278 : t276 < (l1_1.length : Int) := oda
         obtain ⟨ad278, e278, hx278_0, hx278_1, hx278_2, hx278_3, hx278_4⟩ := at_T56 (Kd.C_foot_now HR1_1.out HK.out) t276 p278 q278
         have hw278_4 := hx278_4
         have hw278_3 := hx278_3
         have hw278_2 := hx278_2
         have hw278_1 := hx278_1
         have hw278_0 := hx278_0
         cases e278
         have hne278_4 := (show (⟨(ad278.add ((t276).toNat * 5)).block, (ad278.add ((t276).toNat * 5)).off + 4, none⟩ : Addr).block ≠ g from by first | (rw [add_block]; exact Kd.foot_ne HR1_1.out (by omega) (by decide)) | (show (Addr.add _ _).block ≠ _; rw [add_block]; exact Kd.foot_ne HR1_1.out (by omega) (by decide)) | exact Kd.foot_ne HR1_1.out (by omega) (by decide) | (dsimp only; exact Kd.foot_ne HR1_1.out (by omega) (by decide)))
         have hlt278_4 := (Kd.foot_lt HR1_1.out (by omega) (by decide))
         have hne278_3 := (show (⟨(ad278.add ((t276).toNat * 5)).block, (ad278.add ((t276).toNat * 5)).off + 3, none⟩ : Addr).block ≠ g from by first | (rw [add_block]; exact Kd.foot_ne HR1_1.out (by omega) (by decide)) | (show (Addr.add _ _).block ≠ _; rw [add_block]; exact Kd.foot_ne HR1_1.out (by omega) (by decide)) | exact Kd.foot_ne HR1_1.out (by omega) (by decide) | (dsimp only; exact Kd.foot_ne HR1_1.out (by omega) (by decide)))
         have hlt278_3 := (Kd.foot_lt HR1_1.out (by omega) (by decide))
         have hne278_2 := (show (⟨(ad278.add ((t276).toNat * 5)).block, (ad278.add ((t276).toNat * 5)).off + 2, none⟩ : Addr).block ≠ g from by first | (rw [add_block]; exact Kd.foot_ne HR1_1.out (by omega) (by decide)) | (show (Addr.add _ _).block ≠ _; rw [add_block]; exact Kd.foot_ne HR1_1.out (by omega) (by decide)) | exact Kd.foot_ne HR1_1.out (by omega) (by decide) | (dsimp only; exact Kd.foot_ne HR1_1.out (by omega) (by decide)))
         have hlt278_2 := (Kd.foot_lt HR1_1.out (by omega) (by decide))
         have hne278_1 := (show (⟨(ad278.add ((t276).toNat * 5)).block, (ad278.add ((t276).toNat * 5)).off + 1, none⟩ : Addr).block ≠ g from by first | (rw [add_block]; exact Kd.foot_ne HR1_1.out (by omega) (by decide)) | (show (Addr.add _ _).block ≠ _; rw [add_block]; exact Kd.foot_ne HR1_1.out (by omega) (by decide)) | exact Kd.foot_ne HR1_1.out (by omega) (by decide) | (dsimp only; exact Kd.foot_ne HR1_1.out (by omega) (by decide)))
         have hlt278_1 := (Kd.foot_lt HR1_1.out (by omega) (by decide))
         have hne278_0 := (show ((ad278.add ((t276).toNat * 5)) : Addr).block ≠ g from by first | (rw [add_block]; exact Kd.foot_ne HR1_1.out (by omega) (by decide)) | (show (Addr.add _ _).block ≠ _; rw [add_block]; exact Kd.foot_ne HR1_1.out (by omega) (by decide)) | exact Kd.foot_ne HR1_1.out (by omega) (by decide) | (dsimp only; exact Kd.foot_ne HR1_1.out (by omega) (by decide)))
         have hlt278_0 := (Kd.foot_lt HR1_1.out (by omega) (by decide))
         replace p278 := eq_true p278
         replace q278 := eq_true q278
         refine start_ (n := 11) (S := fun w' => w'.cell? ⟨gb251, 0, none⟩ = some (.slice A1_0 l1_0.length c1_0) ∧ w'.cell? ⟨gb251, 1, none⟩ = some (.slice (some ad278) l1_1.length c1_1) ∧ w'.cell? (ad278.add ((t276).toNat * 5)) = some (.int .i64 ((rd_T56 l1_1 t276).f0)) ∧ w'.cell? ⟨(ad278.add ((t276).toNat * 5)).block, (ad278.add ((t276).toNat * 5)).off + 1, none⟩ = some (.int .i64 ((rd_T56 l1_1 t276).f1.f0)) ∧ w'.cell? ⟨(ad278.add ((t276).toNat * 5)).block, (ad278.add ((t276).toNat * 5)).off + 2, none⟩ = some (.int .i64 ((rd_T56 l1_1 t276).f1.f1)) ∧ w'.cell? ⟨(ad278.add ((t276).toNat * 5)).block, (ad278.add ((t276).toNat * 5)).off + 3, none⟩ = some (.int .i64 ((rd_T56 l1_1 t276).f2.f0)) ∧ w'.cell? ⟨(ad278.add ((t276).toNat * 5)).block, (ad278.add ((t276).toNat * 5)).off + 4, none⟩ = some (.int .i64 ((rd_T56 l1_1 t276).f2.f1))) (ds := []) #[false, false, false, false, false, false, false, false, false, false, false] (by kernel_rfl) rfl rfl ⟨(blk_cell BK251.out 0).trans rfl, (blk_cell BK251.out 1).trans rfl, hx278_0, hx278_1, hx278_2, hx278_3, hx278_4⟩ (fun hHeld => ?_); refine with_tabW spec_l2Op.tab10 spec_l2Op.bits10 (fun HT_ HW_ => ?_)
         generalize w50.drew = w51 at HO255 BK251 BK252 BK258 HI0 HK HB hx278_0 hx278_1 hx278_2 hx278_3 hx278_4 hHeld ⊢
         refine pu 0 38 ?_
         refine pu 2 40 ?_
         refine pu 3 41 ?_
         refine tk 1 39 ?_
         refine tk 4 42 ?_
         refine pu 5 43 ?_
         refine one_ (i := 6) (N := some 44) #[true, true, true, true, true, true, true, false, false, false, false] rfl rfl (one_of HT_.out (by kernel_rfl)) (by decide) (fun K hK => ?_)
         refine gs Try.func120 #[.pointer (some ⟨g, 0, none⟩), .int .i64 (l1_1.length : Int)] ?_
         with_reducible refine (spec_l9Rd_pick.calls k g s0_0 t275 (l1_1.length : Int) t276 t277 w0 _ ?side1 ?side2 A38.out).mono ?_
         (case side1 => exact iis HI0.out)
         (case side2 => exact bs HB.out)
         rintro e w52 ⟨rfl, hi, hb, hk⟩
         have HS2_ := keep_cell hk (hHeld.2.2.1) (by first | (rw [add_block]; exact hne278_0) | (show (Addr.add _ _).block ≠ _; rw [add_block]; exact hne278_0) | exact hne278_0)
         have HS3_ := keep_cell hk (hHeld.2.2.2.1) (by first | (rw [add_block]; exact hne278_1) | (show (Addr.add _ _).block ≠ _; rw [add_block]; exact hne278_1) | exact hne278_1)
         have HS4_ := keep_cell hk (hHeld.2.2.2.2.1) (by first | (rw [add_block]; exact hne278_2) | (show (Addr.add _ _).block ≠ _; rw [add_block]; exact hne278_2) | exact hne278_2)
         have HS5_ := keep_cell hk (hHeld.2.2.2.2.2.1) (by first | (rw [add_block]; exact hne278_3) | (show (Addr.add _ _).block ≠ _; rw [add_block]; exact hne278_3) | exact hne278_3)
         have HS6_ := keep_cell hk (hHeld.2.2.2.2.2.2) (by first | (rw [add_block]; exact hne278_4) | (show (Addr.add _ _).block ≠ _; rw [add_block]; exact hne278_4) | exact hne278_4)
         refine ⟨_, rfl, ?_⟩
         replace BK251 := kk BK251 hk
         replace BK252 := kk BK252 hk
         replace HO255 := ro HO255 HI0 hk
         replace BK258 := kk BK258 hk
         replace HK := kt HK hk
         replace HB := Aside0.mk (hb)
         replace HI0 := Aside0.mk (hi)
         (try clear hb)
         (try clear hb2)
         (try clear hk)
         (try clear hi)
         refine hK.out _ _ ⟨(blk_cell BK251.out 0).trans rfl, (blk_cell BK251.out 1).trans rfl, HS2_, HS3_, HS4_, HS5_, HS6_⟩ (fun hHeld => ?_)
         clear hK K
         refine nrm 44 ?_
         refine pu 7 45 ?_
         refine tk 8 46 ?_
         refine pu 9 47 ?_
         refine one_ (i := 10) (N := none) #[true, true, true, true, true, true, true, true, true, true, true] rfl rfl (one_of HT_.out (by kernel_rfl)) (by decide) (fun K hK => ?_)
         have hs53 : w52.cell? ⟨gb258, 3, none⟩ = some (.int .i64 t268) := (blk_cell BK258.out 3).trans rfl
         have hfs53 := blk_frozen BK258.out 3
         have hns53_0 := NB251_258.out
         have hns53_1 := NB252_258.out
         have hms53_0 := NB258_251.out
         have hms53_1 := NB258_252.out
         have hs54 : w52.cell? ⟨gb258, 4, none⟩ = some (.int .i64 t269) := (blk_cell BK258.out 4).trans rfl
         have hfs54 := blk_frozen BK258.out 4
         have hns54_0 := NB251_258.out
         have hns54_1 := NB252_258.out
         have hms54_0 := NB258_251.out
         have hms54_1 := NB258_252.out
         have hs55 : w52.cell? ⟨gb258, 5, none⟩ = some (.int .i64 t270) := (blk_cell BK258.out 5).trans rfl
         have hfs55 := blk_frozen BK258.out 5
         have hns55_0 := NB251_258.out
         have hns55_1 := NB252_258.out
         have hms55_0 := NB258_251.out
         have hms55_1 := NB258_252.out
         have hs56 : w52.cell? ⟨gb258, 6, none⟩ = some (.int .i64 t271) := (blk_cell BK258.out 6).trans rfl
         have hfs56 := blk_frozen BK258.out 6
         have hns56_0 := NB251_258.out
         have hns56_1 := NB252_258.out
         have hms56_0 := NB258_251.out
         have hms56_1 := NB258_252.out
         have hs57 : w52.cell? ⟨gb258, 7, none⟩ = some (.int .i64 t272) := (blk_cell BK258.out 7).trans rfl
         have hfs57 := blk_frozen BK258.out 7
         have hns57_0 := NB251_258.out
         have hns57_1 := NB252_258.out
         have hms57_0 := NB258_251.out
         have hms57_1 := NB258_252.out
         refine skip_ (w1 := ?_) (by rfl) rfl ?_ ?_
         rotate_left
         ·go_simp
          rfl
         refine hK.out _ _ ⟨((cell_far (p := ⟨gb258, _, none⟩) NB251_258.out _).trans (((cell_far (p := ⟨gb258, _, none⟩) NB251_258.out _).trans (((cell_far (p := ⟨gb258, _, none⟩) NB251_258.out _).trans (((cell_far (p := ⟨gb258, _, none⟩) NB251_258.out _).trans (((cell_far (p := ⟨gb258, _, none⟩) NB251_258.out _).trans (hHeld.1)))))))))), ((cell_far (p := ⟨gb258, _, none⟩) NB251_258.out _).trans (((cell_far (p := ⟨gb258, _, none⟩) NB251_258.out _).trans (((cell_far (p := ⟨gb258, _, none⟩) NB251_258.out _).trans (((cell_far (p := ⟨gb258, _, none⟩) NB251_258.out _).trans (((cell_far (p := ⟨gb258, _, none⟩) NB251_258.out _).trans (hHeld.2.1)))))))))), ((cell_far (p := ⟨gb258, _, none⟩) (nl2 hlt278_0 GW258) _).trans (((cell_far (p := ⟨gb258, _, none⟩) (nl2 hlt278_0 GW258) _).trans (((cell_far (p := ⟨gb258, _, none⟩) (nl2 hlt278_0 GW258) _).trans (((cell_far (p := ⟨gb258, _, none⟩) (nl2 hlt278_0 GW258) _).trans (((cell_far (p := ⟨gb258, _, none⟩) (nl2 hlt278_0 GW258) _).trans (hHeld.2.2.1)))))))))), ((cell_far (p := ⟨gb258, _, none⟩) (nl2 hlt278_1 GW258) _).trans (((cell_far (p := ⟨gb258, _, none⟩) (nl2 hlt278_1 GW258) _).trans (((cell_far (p := ⟨gb258, _, none⟩) (nl2 hlt278_1 GW258) _).trans (((cell_far (p := ⟨gb258, _, none⟩) (nl2 hlt278_1 GW258) _).trans (((cell_far (p := ⟨gb258, _, none⟩) (nl2 hlt278_1 GW258) _).trans (hHeld.2.2.2.1)))))))))), ((cell_far (p := ⟨gb258, _, none⟩) (nl2 hlt278_2 GW258) _).trans (((cell_far (p := ⟨gb258, _, none⟩) (nl2 hlt278_2 GW258) _).trans (((cell_far (p := ⟨gb258, _, none⟩) (nl2 hlt278_2 GW258) _).trans (((cell_far (p := ⟨gb258, _, none⟩) (nl2 hlt278_2 GW258) _).trans (((cell_far (p := ⟨gb258, _, none⟩) (nl2 hlt278_2 GW258) _).trans (hHeld.2.2.2.2.1)))))))))), ((cell_far (p := ⟨gb258, _, none⟩) (nl2 hlt278_3 GW258) _).trans (((cell_far (p := ⟨gb258, _, none⟩) (nl2 hlt278_3 GW258) _).trans (((cell_far (p := ⟨gb258, _, none⟩) (nl2 hlt278_3 GW258) _).trans (((cell_far (p := ⟨gb258, _, none⟩) (nl2 hlt278_3 GW258) _).trans (((cell_far (p := ⟨gb258, _, none⟩) (nl2 hlt278_3 GW258) _).trans (hHeld.2.2.2.2.2.1)))))))))), ((cell_far (p := ⟨gb258, _, none⟩) (nl2 hlt278_4 GW258) _).trans (((cell_far (p := ⟨gb258, _, none⟩) (nl2 hlt278_4 GW258) _).trans (((cell_far (p := ⟨gb258, _, none⟩) (nl2 hlt278_4 GW258) _).trans (((cell_far (p := ⟨gb258, _, none⟩) (nl2 hlt278_4 GW258) _).trans (((cell_far (p := ⟨gb258, _, none⟩) (nl2 hlt278_4 GW258) _).trans (hHeld.2.2.2.2.2.2))))))))))⟩ (fun hHeld => ?_)
         clear hK K
         refine done_ (done_of HT_.out (by kernel_rfl)) ?_
         try go_wp2
         go_meet
         case rel => exact ⟨_, (t277), (0), (0), ((rd_T56 l1_1 t276).f0), ((rd_T56 l1_1 t276).f1.f0), ((rd_T56 l1_1 t276).f1.f1), ((rd_T56 l1_1 t276).f2.f0), ((rd_T56 l1_1 t276).f2.f1), H', ⟨by first | omega | exact Nat.le_refl _⟩, ⟨bf BK251.out⟩, ⟨bf BK252.out⟩, ⟨by (with_reducible repeat (first | refine blk_drewN ?_ _ | refine blk_drew ?_ | refine blk_alloc ?_ _)); refine blk_put (cs := #[.int .i64 t256, .int .i64 0, .int .i64 0, .int .i64 ((rd_T56 l1_1 t276).f0), .int .i64 ((rd_T56 l1_1 t276).f1.f0), .int .i64 ((rd_T56 l1_1 t276).f1.f1), .int .i64 ((rd_T56 l1_1 t276).f2.f0), .int .i64 t272]) ?_ 7 _ rfl; (with_reducible repeat (first | refine blk_drewN ?_ _ | refine blk_drew ?_ | refine blk_alloc ?_ _)); refine blk_put (cs := #[.int .i64 t256, .int .i64 0, .int .i64 0, .int .i64 ((rd_T56 l1_1 t276).f0), .int .i64 ((rd_T56 l1_1 t276).f1.f0), .int .i64 ((rd_T56 l1_1 t276).f1.f1), .int .i64 t271, .int .i64 t272]) ?_ 6 _ rfl; (with_reducible repeat (first | refine blk_drewN ?_ _ | refine blk_drew ?_ | refine blk_alloc ?_ _)); refine blk_put (cs := #[.int .i64 t256, .int .i64 0, .int .i64 0, .int .i64 ((rd_T56 l1_1 t276).f0), .int .i64 ((rd_T56 l1_1 t276).f1.f0), .int .i64 t270, .int .i64 t271, .int .i64 t272]) ?_ 5 _ rfl; (with_reducible repeat (first | refine blk_drewN ?_ _ | refine blk_drew ?_ | refine blk_alloc ?_ _)); refine blk_put (cs := #[.int .i64 t256, .int .i64 0, .int .i64 0, .int .i64 ((rd_T56 l1_1 t276).f0), .int .i64 t269, .int .i64 t270, .int .i64 t271, .int .i64 t272]) ?_ 4 _ rfl; (with_reducible repeat (first | refine blk_drewN ?_ _ | refine blk_drew ?_ | refine blk_alloc ?_ _)); refine blk_put (cs := #[.int .i64 t256, .int .i64 0, .int .i64 0, .int .i64 t268, .int .i64 t269, .int .i64 t270, .int .i64 t271, .int .i64 t272]) ?_ 3 _ rfl; exact bf BK258.out⟩, ⟨iis HI0.out⟩, ⟨ks HK.out⟩, ⟨bs HB.out⟩⟩
        ·rw [if_neg c40] at H
         exact absurd H (by simp)
       ·rw [if_neg c39] at H
        exact absurd H (by simp)
      ·rw [if_neg c37] at H
       have c37b0 : decide (0 < t274) = false := decide_eq_false c37
       clear c37
       have H' := Aside0.mk H
       clear H
       have hnb58 := NB251_252.out
       have hnc58 := NB252_251.out
       have hnb59 := NB251_258.out
       have hnc59 := NB258_251.out
       have hnb60 := NB251_0.out
       have hnc60 := NB0_251.out
       obtain ⟨hcz61_0, hcz61_1⟩ := bc2 (w := w11) BK251.out
       have hfz61 := blk_frozen BK251.out
       go_wp2_with (first | ((with_reducible refine gc 122 rfl ?_); refine gl 27 Try.func122 #[.pointer (some ⟨g, 0, none⟩), .agg #[.slice A1_0 l1_0.length c1_0, .slice A1_1 l1_1.length c1_1]] ?_; (with_reducible refine (spec_l2Edge.calls k g s0_0 t257 _ _ l1_0 _ _ l1_1 t268 t269 t270 t271 t272 t273 w0 _ ?side1 ?side2 ?side3 ?side4 ?side5 ?side6 A34.out).mono ?_); (case side1 => exact iis HI0.out); (case side2 => exact bs HB.out); (case side3 => exact Kd.C_foot_step HR1_0.out (ks HK.out)); (case side4 => exact HC1_0.out); (case side5 => exact Kd.C_foot_step HR1_1.out (ks HK.out)); (case side6 => exact HC1_1.out); rintro e w62 ⟨rfl, hi, hb, hk⟩; refine ⟨_, rfl, ?_⟩; replace BK251 := kk BK251 hk; replace BK252 := kk BK252 hk; replace HO255 := rp HO255 BK258 HI0 hk; replace BK258 := kp #[.int .i64 t256, .int .i64 0, .int .i64 0, .int .i64 0, .int .i64 0, .int .i64 0, .int .i64 0, .int .i64 0] BK258 hk; replace HK := kt HK hk; replace HB := Aside0.mk (hb); replace HI0 := Aside0.mk (hi); (try clear hi hb hk); have hnb63 := NB258_252.out; have hnc63 := NB252_258.out; have hnb64 := NB258_0.out; have hnc64 := NB0_258.out; obtain ⟨hcz65_0, hcz65_1, hcz65_2, hcz65_3, hcz65_4, hcz65_5, hcz65_6, hcz65_7⟩ := bc8 (w := w62) BK258.out; have hfz65 := blk_frozen BK258.out; obtain ⟨hcz66_0, hcz66_1⟩ := bc2 (w := w62) BK251.out; have hfz66 := blk_frozen BK251.out) | (go_at_call 120; (with_reducible refine (spec_l9Rd_pick.calls k g s0_0 t273 4 t274 t275 w0 _ ?side1 ?side2 A36.out).mono ?_); (case side1 => exact iis HI0.out); (case side2 => exact bs HB.out); rintro e w67 ⟨rfl, hi, hb, hk⟩; replace BK251 := kk BK251 hk; replace BK252 := kk BK252 hk; replace HO255 := rp HO255 BK258 HI0 hk; replace BK258 := kp #[.int .i64 t256, .int .i64 0, .int .i64 0, .int .i64 t268, .int .i64 t269, .int .i64 t270, .int .i64 t271, .int .i64 t272] BK258 hk; replace HK := kt HK hk; replace HB := Aside0.mk (hb); replace HI0 := Aside0.mk (hi); (try clear hi hb hk)))
       go_meet
       case rel => exact ⟨_, (t275), (0), (0), (t268), (t269), (t270), (t271), (t272), H', ⟨by first | omega | exact Nat.le_refl _⟩, ⟨bf BK251.out⟩, ⟨bf BK252.out⟩, ⟨bf BK258.out⟩, ⟨iis HI0.out⟩, ⟨ks HK.out⟩, ⟨bs HB.out⟩⟩
     ·rw [if_neg c35] at H
      have c35b0 : decide (0 < (l1_1.length : Int)) = false := decide_eq_false c35
      have c35b1 : decide (0 < l1_1.length) = false := decide_eq_false (by omega)
      clear c35
      have H' := Aside0.mk H
      clear H
      have hnb68 := NB251_252.out
      have hnc68 := NB252_251.out
      have hnb69 := NB251_258.out
      have hnc69 := NB258_251.out
      have hnb70 := NB251_0.out
      have hnc70 := NB0_251.out
      obtain ⟨hcz71_0, hcz71_1⟩ := bc2 (w := w11) BK251.out
      have hfz71 := blk_frozen BK251.out
      go_wp2_with (first | ((with_reducible refine gc 122 rfl ?_); refine gl 27 Try.func122 #[.pointer (some ⟨g, 0, none⟩), .agg #[.slice A1_0 l1_0.length c1_0, .slice A1_1 l1_1.length c1_1]] ?_; (with_reducible refine (spec_l2Edge.calls k g s0_0 t257 _ _ l1_0 _ _ l1_1 t268 t269 t270 t271 t272 t273 w0 _ ?side1 ?side2 ?side3 ?side4 ?side5 ?side6 A34.out).mono ?_); (case side1 => exact iis HI0.out); (case side2 => exact bs HB.out); (case side3 => exact Kd.C_foot_step HR1_0.out (ks HK.out)); (case side4 => exact HC1_0.out); (case side5 => exact Kd.C_foot_step HR1_1.out (ks HK.out)); (case side6 => exact HC1_1.out); rintro e w72 ⟨rfl, hi, hb, hk⟩; refine ⟨_, rfl, ?_⟩; replace BK251 := kk BK251 hk; replace BK252 := kk BK252 hk; replace HO255 := rp HO255 BK258 HI0 hk; replace BK258 := kp #[.int .i64 t256, .int .i64 0, .int .i64 0, .int .i64 0, .int .i64 0, .int .i64 0, .int .i64 0, .int .i64 0] BK258 hk; replace HK := kt HK hk; replace HB := Aside0.mk (hb); replace HI0 := Aside0.mk (hi); (try clear hi hb hk); have hnb73 := NB258_252.out; have hnc73 := NB252_258.out; have hnb74 := NB258_0.out; have hnc74 := NB0_258.out; obtain ⟨hcz75_0, hcz75_1, hcz75_2, hcz75_3, hcz75_4, hcz75_5, hcz75_6, hcz75_7⟩ := bc8 (w := w72) BK258.out; have hfz75 := blk_frozen BK258.out; obtain ⟨hcz76_0, hcz76_1⟩ := bc2 (w := w72) BK251.out; have hfz76 := blk_frozen BK251.out))
      go_meet
      case rel => exact ⟨_, (t273), (0), (0), (t268), (t269), (t270), (t271), (t272), H', ⟨by first | omega | exact Nat.le_refl _⟩, ⟨bf BK251.out⟩, ⟨bf BK252.out⟩, ⟨by (with_reducible repeat (first | refine blk_drewN ?_ _ | refine blk_drew ?_ | refine blk_alloc ?_ _)); refine blk_put (cs := #[.int .i64 t256, .int .i64 0, .int .i64 0, .int .i64 t268, .int .i64 t269, .int .i64 t270, .int .i64 t271, .int .i64 0]) ?_ 7 _ rfl; (with_reducible repeat (first | refine blk_drewN ?_ _ | refine blk_drew ?_ | refine blk_alloc ?_ _)); refine blk_put (cs := #[.int .i64 t256, .int .i64 0, .int .i64 0, .int .i64 t268, .int .i64 t269, .int .i64 t270, .int .i64 0, .int .i64 0]) ?_ 6 _ rfl; (with_reducible repeat (first | refine blk_drewN ?_ _ | refine blk_drew ?_ | refine blk_alloc ?_ _)); refine blk_put (cs := #[.int .i64 t256, .int .i64 0, .int .i64 0, .int .i64 t268, .int .i64 t269, .int .i64 0, .int .i64 0, .int .i64 0]) ?_ 5 _ rfl; (with_reducible repeat (first | refine blk_drewN ?_ _ | refine blk_drew ?_ | refine blk_alloc ?_ _)); refine blk_put (cs := #[.int .i64 t256, .int .i64 0, .int .i64 0, .int .i64 t268, .int .i64 0, .int .i64 0, .int .i64 0, .int .i64 0]) ?_ 4 _ rfl; (with_reducible repeat (first | refine blk_drewN ?_ _ | refine blk_drew ?_ | refine blk_alloc ?_ _)); refine blk_put (cs := #[.int .i64 t256, .int .i64 0, .int .i64 0, .int .i64 0, .int .i64 0, .int .i64 0, .int .i64 0, .int .i64 0]) ?_ 3 _ rfl; exact bf BK258.out⟩, ⟨iis HI0.out⟩, ⟨ks HK.out⟩, ⟨bs HB.out⟩⟩
    ·rw [if_neg c33] at H
     have c33b0 : (t256 == 3) = false := beq_eq_false_iff_ne.mpr c33
     have c33b1 : (t256 != 3) = true := bne_iff_ne.mpr c33
     by_cases c77 : t256 = 4
     ·rw [if_pos c77] at H
      have c77b0 : (t256 == 4) = true := beq_iff_eq.mpr c77
      have c77b1 : (t256 != 4) = false := bne_eq_false_iff_eq.mpr c77
      clear c77
      replace H := Option.bind_eq_some_iff.mp H
      obtain ⟨⟨t279, t280, t281⟩, A780, H⟩ := H
      try dsimp -simprocs only at H
      have A78 := Aside0.mk A780
      clear A780
      by_cases c79 : (l1_0.length : Int) > 0
      ·rw [if_pos c79] at H
       have c79b0 : decide (0 < (l1_0.length : Int)) = true := decide_eq_true c79
       have c79b1 : decide (0 < l1_0.length) = true := decide_eq_true (by omega)
       clear c79
       replace H := Option.bind_eq_some_iff.mp H
       obtain ⟨⟨t282, t283⟩, A800, H⟩ := H
       try dsimp -simprocs only at H
       have A80 := Aside0.mk A800
       clear A800
       by_cases c81 : t282 > 0
       ·rw [if_pos c81] at H
        have c81b0 : decide (0 < t282) = true := decide_eq_true c81
        clear c81
        replace H := Option.bind_eq_some_iff.mp H
        obtain ⟨⟨t284, t285⟩, A820, H⟩ := H
        try dsimp -simprocs only at H
        have A82 := Aside0.mk A820
        clear A820
        by_cases c83 : 0 ≤ t284
        ·rw [if_pos c83] at H
         have c83b0 : decide (0 ≤ t284) = true := decide_eq_true c83
         clear c83
         by_cases c84 : t284 < (l1_0.length : Int)
         ·rw [if_pos c84] at H
          have c84b0 : decide (t284 < (l1_0.length : Int)) = true := decide_eq_true c84
          clear c84
          have H' := Aside0.mk H
          clear H
          try go_wp2_with (first | ((with_reducible refine gc 121 rfl ?_); refine gl 51 Try.func121 #[.pointer (some ⟨g, 0, none⟩)] ?_; (with_reducible refine (spec_l2Node.calls k g s0_0 t257 t279 t280 t281 w0 _ ?side1 ?side2 A78.out).mono ?_); (case side1 => exact iis HI0.out); (case side2 => exact bs HB.out); rintro e w85 ⟨rfl, hi, hb, hk⟩; refine ⟨_, rfl, ?_⟩; replace BK251 := kk BK251 hk; replace BK252 := kk BK252 hk; replace HO255 := rp HO255 BK258 HI0 hk; replace BK258 := kp #[.int .i64 t256, .int .i64 0, .int .i64 0, .int .i64 0, .int .i64 0, .int .i64 0, .int .i64 0, .int .i64 0] BK258 hk; replace HK := kt HK hk; replace HB := Aside0.mk (hb); replace HI0 := Aside0.mk (hi); (try clear hi hb hk); have hnb86 := NB258_251.out; have hnc86 := NB251_258.out; have hnb87 := NB258_252.out; have hnc87 := NB252_258.out; have hnb88 := NB258_0.out; have hnc88 := NB0_258.out; obtain ⟨hcz89_0, hcz89_1, hcz89_2, hcz89_3, hcz89_4, hcz89_5, hcz89_6, hcz89_7⟩ := bc8 (w := w85) BK258.out; have hfz89 := blk_frozen BK258.out; have hnb90 := NB251_252.out; have hnc90 := NB252_251.out; have hnb91 := NB251_0.out; have hnc91 := NB0_251.out; obtain ⟨hcz92_0, hcz92_1⟩ := bc2 (w := w85) BK251.out; have hfz92 := blk_frozen BK251.out) | (go_at_call 120; (with_reducible refine (spec_l9Rd_pick.calls k g s0_0 t281 2 t282 t283 w0 _ ?side1 ?side2 A80.out).mono ?_); (case side1 => exact iis HI0.out); (case side2 => exact bs HB.out); rintro e w93 ⟨rfl, hi, hb, hk⟩; replace BK251 := kk BK251 hk; replace BK252 := kk BK252 hk; replace HO255 := rp HO255 BK258 HI0 hk; replace BK258 := kp #[.int .i64 t256, .int .i64 t279, .int .i64 t280, .int .i64 0, .int .i64 0, .int .i64 0, .int .i64 0, .int .i64 0] BK258 hk; replace HK := kt HK hk; replace HB := Aside0.mk (hb); replace HI0 := Aside0.mk (hi); (try clear hi hb hk)))
          replace HO255 := rd_ HO255
          replace BK251 := bd BK251
          replace BK252 := bd BK252
          replace BK258 := bd BK258
          replace HI0 := Aside0.mk (IsS126.drew HI0.out)
          replace HK := Aside0.mk (keep_drew HK.out)
          replace HB := hd HB
          have p286 : 0 ≤ (t284 : Int) := oda
          have q286 : t284 < (l1_0.length : Int) := oda
          obtain ⟨ad286, e286, hx286_0, hx286_1⟩ := at_T36 (Kd.C_foot_now HR1_0.out HK.out) t284 p286 q286
          have hw286_1 := hx286_1
          have hw286_0 := hx286_0
          cases e286
          have hne286_1 := (show (⟨(ad286.add ((t284).toNat * 2)).block, (ad286.add ((t284).toNat * 2)).off + 1, none⟩ : Addr).block ≠ g from by first | (rw [add_block]; exact Kd.foot_ne HR1_0.out (by omega) (by decide)) | (show (Addr.add _ _).block ≠ _; rw [add_block]; exact Kd.foot_ne HR1_0.out (by omega) (by decide)) | exact Kd.foot_ne HR1_0.out (by omega) (by decide) | (dsimp only; exact Kd.foot_ne HR1_0.out (by omega) (by decide)))
          have hlt286_1 := (Kd.foot_lt HR1_0.out (by omega) (by decide))
          have hne286_0 := (show ((ad286.add ((t284).toNat * 2)) : Addr).block ≠ g from by first | (rw [add_block]; exact Kd.foot_ne HR1_0.out (by omega) (by decide)) | (show (Addr.add _ _).block ≠ _; rw [add_block]; exact Kd.foot_ne HR1_0.out (by omega) (by decide)) | exact Kd.foot_ne HR1_0.out (by omega) (by decide) | (dsimp only; exact Kd.foot_ne HR1_0.out (by omega) (by decide)))
          have hlt286_0 := (Kd.foot_lt HR1_0.out (by omega) (by decide))
          replace p286 := eq_true p286
          replace q286 := eq_true q286
          refine start_ (n := 11) (S := fun w' => w'.cell? ⟨gb251, 0, none⟩ = some (.slice (some ad286) l1_0.length c1_0) ∧ w'.cell? ⟨gb251, 1, none⟩ = some (.slice A1_1 l1_1.length c1_1) ∧ w'.cell? (ad286.add ((t284).toNat * 2)) = some (.int .i64 ((rd_T36 l1_0 t284).f0)) ∧ w'.cell? ⟨(ad286.add ((t284).toNat * 2)).block, (ad286.add ((t284).toNat * 2)).off + 1, none⟩ = some (.int .i64 ((rd_T36 l1_0 t284).f1))) (ds := []) #[false, false, false, false, false, false, false, false, false, false, false] (by kernel_rfl) rfl rfl ⟨(blk_cell BK251.out 0).trans rfl, (blk_cell BK251.out 1).trans rfl, hx286_0, hx286_1⟩ (fun hHeld => ?_); refine with_tabW spec_l2Op.tab14 spec_l2Op.bits14 (fun HT_ HW_ => ?_)
          generalize w93.drew = w94 at HO255 BK251 BK252 BK258 HI0 HK HB hx286_0 hx286_1 hHeld ⊢
          refine pu 0 62 ?_
          refine pu 2 64 ?_
          refine pu 3 65 ?_
          refine tk 1 63 ?_
          refine tk 4 66 ?_
          refine pu 5 67 ?_
          refine one_ (i := 6) (N := some 68) #[true, true, true, true, true, true, true, false, false, false, false] rfl rfl (one_of HT_.out (by kernel_rfl)) (by decide) (fun K hK => ?_)
          refine gs Try.func120 #[.pointer (some ⟨g, 0, none⟩), .int .i64 (l1_0.length : Int)] ?_
          with_reducible refine (spec_l9Rd_pick.calls k g s0_0 t283 (l1_0.length : Int) t284 t285 w0 _ ?side1 ?side2 A82.out).mono ?_
          (case side1 => exact iis HI0.out)
          (case side2 => exact bs HB.out)
          rintro e w95 ⟨rfl, hi, hb, hk⟩
          have HS2_ := keep_cell hk (hHeld.2.2.1) (by first | (rw [add_block]; exact hne286_0) | (show (Addr.add _ _).block ≠ _; rw [add_block]; exact hne286_0) | exact hne286_0)
          have HS3_ := keep_cell hk (hHeld.2.2.2) (by first | (rw [add_block]; exact hne286_1) | (show (Addr.add _ _).block ≠ _; rw [add_block]; exact hne286_1) | exact hne286_1)
          refine ⟨_, rfl, ?_⟩
          replace BK251 := kk BK251 hk
          replace BK252 := kk BK252 hk
          replace HO255 := ro HO255 HI0 hk
          replace BK258 := kk BK258 hk
          replace HK := kt HK hk
          replace HB := Aside0.mk (hb)
          replace HI0 := Aside0.mk (hi)
          (try clear hb)
          (try clear hb2)
          (try clear hk)
          (try clear hi)
          refine hK.out _ _ ⟨(blk_cell BK251.out 0).trans rfl, (blk_cell BK251.out 1).trans rfl, HS2_, HS3_⟩ (fun hHeld => ?_)
          clear hK K
          refine nrm 68 ?_
          refine pu 7 69 ?_
          refine tk 8 70 ?_
          refine pu 9 71 ?_
          refine one_ (i := 10) (N := none) #[true, true, true, true, true, true, true, true, true, true, true] rfl rfl (one_of HT_.out (by kernel_rfl)) (by decide) (fun K hK => ?_)
          have hs96 : w95.cell? ⟨gb258, 1, none⟩ = some (.int .i64 t279) := (blk_cell BK258.out 1).trans rfl
          have hfs96 := blk_frozen BK258.out 1
          have hns96_0 := NB251_258.out
          have hns96_1 := NB252_258.out
          have hms96_0 := NB258_251.out
          have hms96_1 := NB258_252.out
          have hs97 : w95.cell? ⟨gb258, 2, none⟩ = some (.int .i64 t280) := (blk_cell BK258.out 2).trans rfl
          have hfs97 := blk_frozen BK258.out 2
          have hns97_0 := NB251_258.out
          have hns97_1 := NB252_258.out
          have hms97_0 := NB258_251.out
          have hms97_1 := NB258_252.out
          refine skip_ (w1 := ?_) (by rfl) rfl ?_ ?_
          rotate_left
          ·go_simp
           rfl
          refine hK.out _ _ ⟨((cell_far (p := ⟨gb258, _, none⟩) NB251_258.out _).trans (((cell_far (p := ⟨gb258, _, none⟩) NB251_258.out _).trans (hHeld.1)))), ((cell_far (p := ⟨gb258, _, none⟩) NB251_258.out _).trans (((cell_far (p := ⟨gb258, _, none⟩) NB251_258.out _).trans (hHeld.2.1)))), ((cell_far (p := ⟨gb258, _, none⟩) (nl2 hlt286_0 GW258) _).trans (((cell_far (p := ⟨gb258, _, none⟩) (nl2 hlt286_0 GW258) _).trans (hHeld.2.2.1)))), ((cell_far (p := ⟨gb258, _, none⟩) (nl2 hlt286_1 GW258) _).trans (((cell_far (p := ⟨gb258, _, none⟩) (nl2 hlt286_1 GW258) _).trans (hHeld.2.2.2))))⟩ (fun hHeld => ?_)
          clear hK K
          refine done_ (done_of HT_.out (by kernel_rfl)) ?_
          try go_wp2
          go_meet
          case rel => exact ⟨_, (t285), ((rd_T36 l1_0 t284).f0), ((rd_T36 l1_0 t284).f1), (0), (0), (0), (0), (0), H', ⟨by first | omega | exact Nat.le_refl _⟩, ⟨bf BK251.out⟩, ⟨bf BK252.out⟩, ⟨by (with_reducible repeat (first | refine blk_drewN ?_ _ | refine blk_drew ?_ | refine blk_alloc ?_ _)); refine blk_put (cs := #[.int .i64 t256, .int .i64 ((rd_T36 l1_0 t284).f0), .int .i64 t280, .int .i64 0, .int .i64 0, .int .i64 0, .int .i64 0, .int .i64 0]) ?_ 2 _ rfl; (with_reducible repeat (first | refine blk_drewN ?_ _ | refine blk_drew ?_ | refine blk_alloc ?_ _)); refine blk_put (cs := #[.int .i64 t256, .int .i64 t279, .int .i64 t280, .int .i64 0, .int .i64 0, .int .i64 0, .int .i64 0, .int .i64 0]) ?_ 1 _ rfl; exact bf BK258.out⟩, ⟨iis HI0.out⟩, ⟨ks HK.out⟩, ⟨bs HB.out⟩⟩
         ·rw [if_neg c84] at H
          exact absurd H (by simp)
        ·rw [if_neg c83] at H
         exact absurd H (by simp)
       ·rw [if_neg c81] at H
        have c81b0 : decide (0 < t282) = false := decide_eq_false c81
        clear c81
        have H' := Aside0.mk H
        clear H
        go_wp2_with (first | ((with_reducible refine gc 121 rfl ?_); refine gl 51 Try.func121 #[.pointer (some ⟨g, 0, none⟩)] ?_; (with_reducible refine (spec_l2Node.calls k g s0_0 t257 t279 t280 t281 w0 _ ?side1 ?side2 A78.out).mono ?_); (case side1 => exact iis HI0.out); (case side2 => exact bs HB.out); rintro e w98 ⟨rfl, hi, hb, hk⟩; refine ⟨_, rfl, ?_⟩; replace BK251 := kk BK251 hk; replace BK252 := kk BK252 hk; replace HO255 := rp HO255 BK258 HI0 hk; replace BK258 := kp #[.int .i64 t256, .int .i64 0, .int .i64 0, .int .i64 0, .int .i64 0, .int .i64 0, .int .i64 0, .int .i64 0] BK258 hk; replace HK := kt HK hk; replace HB := Aside0.mk (hb); replace HI0 := Aside0.mk (hi); (try clear hi hb hk); have hnb99 := NB258_251.out; have hnc99 := NB251_258.out; have hnb100 := NB258_252.out; have hnc100 := NB252_258.out; have hnb101 := NB258_0.out; have hnc101 := NB0_258.out; obtain ⟨hcz102_0, hcz102_1, hcz102_2, hcz102_3, hcz102_4, hcz102_5, hcz102_6, hcz102_7⟩ := bc8 (w := w98) BK258.out; have hfz102 := blk_frozen BK258.out; have hnb103 := NB251_252.out; have hnc103 := NB252_251.out; have hnb104 := NB251_0.out; have hnc104 := NB0_251.out; obtain ⟨hcz105_0, hcz105_1⟩ := bc2 (w := w98) BK251.out; have hfz105 := blk_frozen BK251.out) | (go_at_call 120; (with_reducible refine (spec_l9Rd_pick.calls k g s0_0 t281 2 t282 t283 w0 _ ?side1 ?side2 A80.out).mono ?_); (case side1 => exact iis HI0.out); (case side2 => exact bs HB.out); rintro e w106 ⟨rfl, hi, hb, hk⟩; replace BK251 := kk BK251 hk; replace BK252 := kk BK252 hk; replace HO255 := rp HO255 BK258 HI0 hk; replace BK258 := kp #[.int .i64 t256, .int .i64 t279, .int .i64 t280, .int .i64 0, .int .i64 0, .int .i64 0, .int .i64 0, .int .i64 0] BK258 hk; replace HK := kt HK hk; replace HB := Aside0.mk (hb); replace HI0 := Aside0.mk (hi); (try clear hi hb hk)))
        go_meet
        case rel => exact ⟨_, (t283), (t279), (t280), (0), (0), (0), (0), (0), H', ⟨by first | omega | exact Nat.le_refl _⟩, ⟨bf BK251.out⟩, ⟨bf BK252.out⟩, ⟨bf BK258.out⟩, ⟨iis HI0.out⟩, ⟨ks HK.out⟩, ⟨bs HB.out⟩⟩
      ·rw [if_neg c79] at H
       have c79b0 : decide (0 < (l1_0.length : Int)) = false := decide_eq_false c79
       have c79b1 : decide (0 < l1_0.length) = false := decide_eq_false (by omega)
       clear c79
       have H' := Aside0.mk H
       clear H
       go_wp2_with (first | ((with_reducible refine gc 121 rfl ?_); refine gl 51 Try.func121 #[.pointer (some ⟨g, 0, none⟩)] ?_; (with_reducible refine (spec_l2Node.calls k g s0_0 t257 t279 t280 t281 w0 _ ?side1 ?side2 A78.out).mono ?_); (case side1 => exact iis HI0.out); (case side2 => exact bs HB.out); rintro e w107 ⟨rfl, hi, hb, hk⟩; refine ⟨_, rfl, ?_⟩; replace BK251 := kk BK251 hk; replace BK252 := kk BK252 hk; replace HO255 := rp HO255 BK258 HI0 hk; replace BK258 := kp #[.int .i64 t256, .int .i64 0, .int .i64 0, .int .i64 0, .int .i64 0, .int .i64 0, .int .i64 0, .int .i64 0] BK258 hk; replace HK := kt HK hk; replace HB := Aside0.mk (hb); replace HI0 := Aside0.mk (hi); (try clear hi hb hk); have hnb108 := NB258_251.out; have hnc108 := NB251_258.out; have hnb109 := NB258_252.out; have hnc109 := NB252_258.out; have hnb110 := NB258_0.out; have hnc110 := NB0_258.out; obtain ⟨hcz111_0, hcz111_1, hcz111_2, hcz111_3, hcz111_4, hcz111_5, hcz111_6, hcz111_7⟩ := bc8 (w := w107) BK258.out; have hfz111 := blk_frozen BK258.out; have hnb112 := NB251_252.out; have hnc112 := NB252_251.out; have hnb113 := NB251_0.out; have hnc113 := NB0_251.out; obtain ⟨hcz114_0, hcz114_1⟩ := bc2 (w := w107) BK251.out; have hfz114 := blk_frozen BK251.out))
       go_meet
       case rel => exact ⟨_, (t281), (t279), (t280), (0), (0), (0), (0), (0), H', ⟨by first | omega | exact Nat.le_refl _⟩, ⟨bf BK251.out⟩, ⟨bf BK252.out⟩, ⟨by (with_reducible repeat (first | refine blk_drewN ?_ _ | refine blk_drew ?_ | refine blk_alloc ?_ _)); refine blk_put (cs := #[.int .i64 t256, .int .i64 t279, .int .i64 0, .int .i64 0, .int .i64 0, .int .i64 0, .int .i64 0, .int .i64 0]) ?_ 2 _ rfl; (with_reducible repeat (first | refine blk_drewN ?_ _ | refine blk_drew ?_ | refine blk_alloc ?_ _)); refine blk_put (cs := #[.int .i64 t256, .int .i64 0, .int .i64 0, .int .i64 0, .int .i64 0, .int .i64 0, .int .i64 0, .int .i64 0]) ?_ 1 _ rfl; exact bf BK258.out⟩, ⟨iis HI0.out⟩, ⟨ks HK.out⟩, ⟨bs HB.out⟩⟩
     ·rw [if_neg c77] at H
      have c77b0 : (t256 == 4) = false := beq_eq_false_iff_ne.mpr c77
      have c77b1 : (t256 != 4) = true := bne_iff_ne.mpr c77
      have H' := Aside0.mk H
      clear H
      go_wp2
      go_meet
      case rel => exact ⟨_, (t257), (0), (0), (0), (0), (0), (0), (0), H', ⟨by first | omega | exact Nat.le_refl _⟩, ⟨bf BK251.out⟩, ⟨bf BK252.out⟩, ⟨by (with_reducible repeat (first | refine blk_drewN ?_ _ | refine blk_drew ?_ | refine blk_alloc ?_ _)); refine blk_put (cs := #[.int .i64 t256, .int .i64 0, .int .i64 0, .int .i64 0, .int .i64 0, .int .i64 0, .int .i64 0, .int .i64 0]) ?_ 7 _ rfl; (with_reducible repeat (first | refine blk_drewN ?_ _ | refine blk_drew ?_ | refine blk_alloc ?_ _)); refine blk_put (cs := #[.int .i64 t256, .int .i64 0, .int .i64 0, .int .i64 0, .int .i64 0, .int .i64 0, .int .i64 0, .int .i64 0]) ?_ 6 _ rfl; (with_reducible repeat (first | refine blk_drewN ?_ _ | refine blk_drew ?_ | refine blk_alloc ?_ _)); refine blk_put (cs := #[.int .i64 t256, .int .i64 0, .int .i64 0, .int .i64 0, .int .i64 0, .int .i64 0, .int .i64 0, .int .i64 0]) ?_ 5 _ rfl; (with_reducible repeat (first | refine blk_drewN ?_ _ | refine blk_drew ?_ | refine blk_alloc ?_ _)); refine blk_put (cs := #[.int .i64 t256, .int .i64 0, .int .i64 0, .int .i64 0, .int .i64 0, .int .i64 0, .int .i64 0, .int .i64 0]) ?_ 4 _ rfl; (with_reducible repeat (first | refine blk_drewN ?_ _ | refine blk_drew ?_ | refine blk_alloc ?_ _)); refine blk_put (cs := #[.int .i64 t256, .int .i64 0, .int .i64 0, .int .i64 0, .int .i64 0, .int .i64 0, .int .i64 0, .int .i64 0]) ?_ 3 _ rfl; (with_reducible repeat (first | refine blk_drewN ?_ _ | refine blk_drew ?_ | refine blk_alloc ?_ _)); refine blk_put (cs := #[.int .i64 t256, .int .i64 0, .int .i64 0, .int .i64 0, .int .i64 0, .int .i64 0, .int .i64 0, .int .i64 0]) ?_ 2 _ rfl; (with_reducible repeat (first | refine blk_drewN ?_ _ | refine blk_drew ?_ | refine blk_alloc ?_ _)); refine blk_put (cs := #[.int .i64 t256, .int .i64 0, .int .i64 0, .int .i64 0, .int .i64 0, .int .i64 0, .int .i64 0, .int .i64 0]) ?_ 1 _ rfl; (with_reducible repeat (first | refine blk_drewN ?_ _ | refine blk_drew ?_ | refine blk_alloc ?_ _)); refine blk_put (cs := #[.int .i64 0, .int .i64 0, .int .i64 0, .int .i64 0, .int .i64 0, .int .i64 0, .int .i64 0, .int .i64 0]) ?_ 0 _ rfl; exact bf BK258.out⟩, ⟨iis HI0.out⟩, ⟨ks HK.out⟩, ⟨bs HB.out⟩⟩
 case rest =>
  clear HC4
  try clear c1
  try clear c2
  try clear p2
  try clear q2
  try clear hx2
  try clear c3
  try clear c4
  try clear c5
  try clear c6
  try clear c7
  try clear c8
  try clear c9
  try clear c10
  try clear c11
  try clear c12
  try clear c13
  try clear c14
  try clear c16
  try clear c16b0
  try clear c16b1
  try clear c19
  try clear c20
  try clear c21
  try clear c23
  try clear c23b0
  try clear c23b1
  try clear c25
  try clear c26
  try clear c27
  try clear p27
  try clear q27
  try clear hx27
  try clear p28
  try clear q28
  try clear hx28
  try clear c30
  try clear c31
  try clear c33
  try clear c33b0
  try clear c33b1
  try clear c35
  try clear c35b0
  try clear c35b1
  try clear c37
  try clear c37b0
  try clear c39
  try clear c39b0
  try clear c40
  try clear c40b0
  try clear c41
  try clear c42
  try clear c43
  try clear c46
  try clear c47
  try clear c58
  try clear c59
  try clear c60
  try clear c63
  try clear c64
  try clear c68
  try clear c69
  try clear c70
  try clear c73
  try clear c74
  try clear c77
  try clear c77b0
  try clear c77b1
  try clear c79
  try clear c79b0
  try clear c79b1
  try clear c81
  try clear c81b0
  try clear c83
  try clear c83b0
  try clear c84
  try clear c84b0
  try clear c86
  try clear c87
  try clear c88
  try clear c89
  try clear c90
  try clear c91
  try clear c99
  try clear c100
  try clear c101
  try clear c103
  try clear c104
  try clear c108
  try clear c109
  try clear c110
  try clear c112
  try clear c113
  try clear hcz102_0 hcz102_1 hcz102_2 hcz102_3 hcz102_4 hcz102_5 hcz102_6 hcz102_7
  try clear hcz105_0 hcz105_1
  try clear hcz111_0 hcz111_1 hcz111_2 hcz111_3 hcz111_4 hcz111_5 hcz111_6 hcz111_7
  try clear hcz114_0 hcz114_1
  try clear hcz15_0 hcz15_1 hcz15_2 hcz15_3 hcz15_4 hcz15_5 hcz15_6 hcz15_7
  try clear hcz22_0 hcz22_1 hcz22_2 hcz22_3 hcz22_4 hcz22_5 hcz22_6 hcz22_7
  try clear hcz28_0 hcz28_1
  try clear hcz32_0 hcz32_1 hcz32_2 hcz32_3 hcz32_4 hcz32_5 hcz32_6 hcz32_7
  try clear hcz44_0 hcz44_1
  try clear hcz48_0 hcz48_1 hcz48_2 hcz48_3 hcz48_4 hcz48_5 hcz48_6 hcz48_7
  try clear hcz49_0 hcz49_1
  try clear hcz61_0 hcz61_1
  try clear hcz65_0 hcz65_1 hcz65_2 hcz65_3 hcz65_4 hcz65_5 hcz65_6 hcz65_7
  try clear hcz66_0 hcz66_1
  try clear hcz71_0 hcz71_1
  try clear hcz75_0 hcz75_1 hcz75_2 hcz75_3 hcz75_4 hcz75_5 hcz75_6 hcz75_7
  try clear hcz76_0 hcz76_1
  try clear hcz89_0 hcz89_1 hcz89_2 hcz89_3 hcz89_4 hcz89_5 hcz89_6 hcz89_7
  try clear hcz92_0 hcz92_1
  try clear hfz102
  try clear hfz105
  try clear hfz111
  try clear hfz114
  try clear hfz15
  try clear hfz22
  try clear hfz28
  try clear hfz32
  try clear hfz44
  try clear hfz48
  try clear hfz49
  try clear hfz61
  try clear hfz65
  try clear hfz66
  try clear hfz71
  try clear hfz75
  try clear hfz76
  try clear hfz89
  try clear hfz92
  try clear hx278_0
  try clear hx278_1
  try clear hx278_2
  try clear hx278_3
  try clear hx278_4
  try clear hx286_0
  try clear hx286_1
  try clear p278
  try clear p286
  try clear q278
  try clear q286
  obtain ⟨kq, x1001_3, x259001_3, x259002_3, x259003_3, x259004_3, x259005_3, x259006_3, x259007_3, HA, HJ3, BK251, BK252, BK258, HI0, HK, HB⟩ := hcut
  cases kq with
  | zero => exact absurd HA.out (by simp [spec_l2Op.j0])
  | succ kj3 =>
   have H := HA.out
   clear HA
   simp only [spec_l2Op.j0] at H
   replace H := Option.bind_eq_some_iff.mp H
   obtain ⟨⟨t287, t288⟩, A1150, H⟩ := H
   try dsimp -simprocs only at H
   have A115 := Aside0.mk A1150
   clear A1150
   by_cases c116 : t287 = 0
   ·rw [if_pos c116] at H
    have c116b0 : (t287 == 0) = true := beq_iff_eq.mpr c116
    have c116b1 : (t287 != 0) = false := bne_eq_false_iff_eq.mpr c116
    clear c116
    obtain ⟨y289, hy289⟩ : ∃ y_ : List Int, y_ = (([0, 5, (-1), 2] : List Int)) := ⟨_, rfl⟩
    replace H : ((spec_l9Rd_num.f kj3 s0_0 t288 y289).bind fun bt292 => (some (bt292.1, x259001_3, x259002_3, x259003_3, x259004_3, x259005_3, x259006_3, x259007_3, bt292.2))) = some (r1, r2, r3, r4, r5, r6, r7, r8, r9) := by first | (rw [hy289]; exact H) | exact H
    have Ny289 := Aside0.mk hy289
    clear hy289
    replace H := Option.bind_eq_some_iff.mp H
    obtain ⟨⟨t292, t293⟩, A1170, H⟩ := H
    try dsimp -simprocs only at H
    have A117 := Aside0.mk A1170
    clear A1170
    simp only [Option.some.injEq, Prod.mk.injEq] at H
    obtain ⟨rfl, rfl, rfl, rfl, rfl, rfl, rfl, rfl, rfl⟩ := H
    go_wp2_with (first | ((with_reducible refine gc 120 rfl ?_); refine gl 73 Try.func120 #[.pointer (some ⟨g, 0, none⟩), .int .i64 60] ?_; (with_reducible refine (spec_l9Rd_pick.calls kj3 g s0_0 x1001_3 60 t287 t288 w0 _ ?side1 ?side2 A115.out).mono ?_); (case side1 => exact iis HI0.out); (case side2 => exact bs HB.out); rintro e w118 ⟨rfl, hi, hb, hk⟩; refine ⟨_, rfl, ?_⟩; replace BK251 := kk BK251 hk; replace BK252 := kk BK252 hk; replace BK258 := kk BK258 hk; replace HK := kt HK hk; replace HB := Aside0.mk (hb); replace HI0 := Aside0.mk (hi); (try clear hi hb hk)) | ((with_reducible refine gd 77 rfl ?_); refine Kd.R_lit (Kd.int .i64) _ 3 ?hg (N := 77) ?hd (xs := ([0, 5, (-1), 2] : List Int)) (inner := [.int .i64 0, .int .i64 5, .int .i64 (-1), .int .i64 2]) (ok := fun _ => True) (okp := fun _ => True) ?hr ?hp (fun _ hk => hk) trivial (Below.refl _ _) (Nat.le_refl _) (by simp) ?_; (case hd => rfl); (case hg => rfl); (case hr => first | (go_simp; done) | (go_simp; rfl)); (case hp => exact (Reps.one (show Kd.M (Kd.int .i64) _ _ _ 0 [.int .i64 0] from rfl) (Reps.one (show Kd.M (Kd.int .i64) _ _ _ 5 [.int .i64 5] from rfl) (Reps.one (show Kd.M (Kd.int .i64) _ _ _ (-1) [.int .i64 (-1)] from rfl) (Reps.one (show Kd.M (Kd.int .i64) _ _ _ 2 [.int .i64 2] from rfl) (Reps.none _ _)))))); intro v290 w119 ho120 hb hg_ hnew_; clear hg_ hnew_; (first | rw [← Ny289.out] at ho120 | (simp only [Int.reduceToNat] at ho120; rw [← Ny289.out] at ho120)); have HO291 := Aside0.mk (Kd.R_lower ho120 (keep_size (w := w) (g := g) (row := none) (ks HK.out))); replace BK251 := bb BK251 hb rfl; replace BK252 := bb BK252 hb rfl; replace BK258 := bb BK258 hb rfl; replace HI0 := ib HI0 hb; replace HK := kb HK hb; replace HB := hs HB hb; clear hb ho120; obtain ⟨Ao121, co121, eo121⟩ := Kd.R_slice HO291.out; subst eo121) | ((with_reducible refine gc 119 rfl ?_); refine gl 78 Try.func119 #[.pointer (some ⟨g, 0, none⟩), .slice Ao121 y289.length co121] ?_; (with_reducible refine (spec_l9Rd_num.calls kj3 g s0_0 t288 _ _ y289 t292 t293 w0 _ ?side1 ?side2 ?side3 ?side4 ?side5 A117.out).mono ?_); (case side1 => exact iis HI0.out); (case side2 => exact bs HB.out); (case side3 => exact cr HO291); (case side4 => exact (Kd.R_reads' HO291.out).2.1); (case side5 => exact far_slice (IsS126.own_ne HI0.out HO291.out (by decide))); rintro e w122 ⟨rfl, hi, hb, hk⟩; refine ⟨_, rfl, ?_⟩; replace BK251 := kk BK251 hk; replace BK252 := kk BK252 hk; replace BK258 := kk BK258 hk; replace HO291 := ro HO291 HI0 hk; replace HK := kt HK hk; replace HB := Aside0.mk (hb); replace HI0 := Aside0.mk (hi); (try clear hi hb hk); have hnb123 := NB258_251.out; have hnc123 := NB251_258.out; have hnb124 := NB258_252.out; have hnc124 := NB252_258.out; have hnb125 := NB258_0.out; have hnc125 := NB0_258.out; obtain ⟨hcz126_0, hcz126_1, hcz126_2, hcz126_3, hcz126_4, hcz126_5, hcz126_6, hcz126_7⟩ := bc8 (w := w122) BK258.out; have hfz126 := blk_frozen BK258.out; have hnb127 := NB252_251.out; have hnc127 := NB251_252.out; have hnb128 := NB252_0.out; have hnc128 := NB0_252.out; obtain ⟨hcz129_0, hcz129_1, hcz129_2, hcz129_3, hcz129_4, hcz129_5, hcz129_6, hcz129_7⟩ := bc8 (w := w122) BK252.out; have hfz129 := blk_frozen BK252.out))
    refine bodyPost_ret (results_cell_row rfl _ _ gb252 58 #[.int .i64 t292, .int .i64 x259001_3, .int .i64 x259002_3, .int .i64 x259003_3, .int .i64 x259004_3, .int .i64 x259005_3, .int .i64 x259006_3, .int .i64 x259007_3] (0, 0) _ rfl (bp BK252.out rfl) Try.underlying58 rfl (by kernel_rfl)) rfl ?_
    exact ⟨eqr, iis HI0.out, bs HB.out, ks HK.out⟩
   ·rw [if_neg c116] at H
    have c116b0 : (t287 == 0) = false := beq_eq_false_iff_ne.mpr c116
    have c116b1 : (t287 != 0) = true := bne_iff_ne.mpr c116
    by_cases c130 : t287 = 1
    ·rw [if_pos c130] at H
     have c130b0 : (t287 == 1) = true := beq_iff_eq.mpr c130
     have c130b1 : (t287 != 1) = false := bne_eq_false_iff_eq.mpr c130
     clear c130
     obtain ⟨y294, hy294⟩ : ∃ y_ : List Int, y_ = (([(-1), 41, 5] : List Int)) := ⟨_, rfl⟩
     replace H : ((spec_l9Rd_num.f kj3 s0_0 t288 y294).bind fun bt297 => (some (t256, x259001_3, bt297.1, x259003_3, x259004_3, x259005_3, x259006_3, x259007_3, bt297.2))) = some (r1, r2, r3, r4, r5, r6, r7, r8, r9) := by first | (rw [hy294]; exact H) | exact H
     have Ny294 := Aside0.mk hy294
     clear hy294
     replace H := Option.bind_eq_some_iff.mp H
     obtain ⟨⟨t297, t298⟩, A1310, H⟩ := H
     try dsimp -simprocs only at H
     have A131 := Aside0.mk A1310
     clear A1310
     simp only [Option.some.injEq, Prod.mk.injEq] at H
     obtain ⟨rfl, rfl, rfl, rfl, rfl, rfl, rfl, rfl, rfl⟩ := H
     go_wp2_with (first | ((with_reducible refine gc 120 rfl ?_); refine gl 73 Try.func120 #[.pointer (some ⟨g, 0, none⟩), .int .i64 60] ?_; (with_reducible refine (spec_l9Rd_pick.calls kj3 g s0_0 x1001_3 60 t287 t288 w0 _ ?side1 ?side2 A115.out).mono ?_); (case side1 => exact iis HI0.out); (case side2 => exact bs HB.out); rintro e w132 ⟨rfl, hi, hb, hk⟩; refine ⟨_, rfl, ?_⟩; replace BK251 := kk BK251 hk; replace BK252 := kk BK252 hk; replace BK258 := kk BK258 hk; replace HK := kt HK hk; replace HB := Aside0.mk (hb); replace HI0 := Aside0.mk (hi); (try clear hi hb hk)) | ((with_reducible refine gd 83 rfl ?_); refine Kd.R_lit (Kd.int .i64) _ 3 ?hg (N := 83) ?hd (xs := ([(-1), 41, 5] : List Int)) (inner := [.int .i64 (-1), .int .i64 41, .int .i64 5]) (ok := fun _ => True) (okp := fun _ => True) ?hr ?hp (fun _ hk => hk) trivial (Below.refl _ _) (Nat.le_refl _) (by simp) ?_; (case hd => rfl); (case hg => rfl); (case hr => first | (go_simp; done) | (go_simp; rfl)); (case hp => exact (Reps.one (show Kd.M (Kd.int .i64) _ _ _ (-1) [.int .i64 (-1)] from rfl) (Reps.one (show Kd.M (Kd.int .i64) _ _ _ 41 [.int .i64 41] from rfl) (Reps.one (show Kd.M (Kd.int .i64) _ _ _ 5 [.int .i64 5] from rfl) (Reps.none _ _))))); intro v295 w133 ho134 hb hg_ hnew_; clear hg_ hnew_; (first | rw [← Ny294.out] at ho134 | (simp only [Int.reduceToNat] at ho134; rw [← Ny294.out] at ho134)); have HO296 := Aside0.mk (Kd.R_lower ho134 (keep_size (w := w) (g := g) (row := none) (ks HK.out))); replace BK251 := bb BK251 hb rfl; replace BK252 := bb BK252 hb rfl; replace BK258 := bb BK258 hb rfl; replace HI0 := ib HI0 hb; replace HK := kb HK hb; replace HB := hs HB hb; clear hb ho134; obtain ⟨Ao135, co135, eo135⟩ := Kd.R_slice HO296.out; subst eo135) | ((with_reducible refine gc 119 rfl ?_); refine gl 84 Try.func119 #[.pointer (some ⟨g, 0, none⟩), .slice Ao135 y294.length co135] ?_; (with_reducible refine (spec_l9Rd_num.calls kj3 g s0_0 t288 _ _ y294 t297 t298 w0 _ ?side1 ?side2 ?side3 ?side4 ?side5 A131.out).mono ?_); (case side1 => exact iis HI0.out); (case side2 => exact bs HB.out); (case side3 => exact cr HO296); (case side4 => exact (Kd.R_reads' HO296.out).2.1); (case side5 => exact far_slice (IsS126.own_ne HI0.out HO296.out (by decide))); rintro e w136 ⟨rfl, hi, hb, hk⟩; refine ⟨_, rfl, ?_⟩; replace BK251 := kk BK251 hk; replace BK252 := kk BK252 hk; replace BK258 := kk BK258 hk; replace HO296 := ro HO296 HI0 hk; replace HK := kt HK hk; replace HB := Aside0.mk (hb); replace HI0 := Aside0.mk (hi); (try clear hi hb hk); have hnb137 := NB258_251.out; have hnc137 := NB251_258.out; have hnb138 := NB258_252.out; have hnc138 := NB252_258.out; have hnb139 := NB258_0.out; have hnc139 := NB0_258.out; obtain ⟨hcz140_0, hcz140_1, hcz140_2, hcz140_3, hcz140_4, hcz140_5, hcz140_6, hcz140_7⟩ := bc8 (w := w136) BK258.out; have hfz140 := blk_frozen BK258.out; have hnb141 := NB252_251.out; have hnc141 := NB251_252.out; have hnb142 := NB252_0.out; have hnc142 := NB0_252.out; obtain ⟨hcz143_0, hcz143_1, hcz143_2, hcz143_3, hcz143_4, hcz143_5, hcz143_6, hcz143_7⟩ := bc8 (w := w136) BK252.out; have hfz143 := blk_frozen BK252.out))
     refine bodyPost_ret (results_cell_row rfl _ _ gb252 58 #[.int .i64 t256, .int .i64 x259001_3, .int .i64 t297, .int .i64 x259003_3, .int .i64 x259004_3, .int .i64 x259005_3, .int .i64 x259006_3, .int .i64 x259007_3] (0, 0) _ rfl (bp BK252.out rfl) Try.underlying58 rfl (by kernel_rfl)) rfl ?_
     exact ⟨eqr, iis HI0.out, bs HB.out, ks HK.out⟩
    ·rw [if_neg c130] at H
     have c130b0 : (t287 == 1) = false := beq_eq_false_iff_ne.mpr c130
     have c130b1 : (t287 != 1) = true := bne_iff_ne.mpr c130
     by_cases c144 : t287 = 2
     ·rw [if_pos c144] at H
      have c144b0 : (t287 == 2) = true := beq_iff_eq.mpr c144
      have c144b1 : (t287 != 2) = false := bne_eq_false_iff_eq.mpr c144
      clear c144
      obtain ⟨y299, hy299⟩ : ∃ y_ : List Int, y_ = (([0, 8, (-1)] : List Int)) := ⟨_, rfl⟩
      replace H : ((spec_l9Rd_num.f kj3 s0_0 t288 y299).bind fun bt302 => (some (t256, x259001_3, x259002_3, bt302.1, x259004_3, x259005_3, x259006_3, x259007_3, bt302.2))) = some (r1, r2, r3, r4, r5, r6, r7, r8, r9) := by first | (rw [hy299]; exact H) | exact H
      have Ny299 := Aside0.mk hy299
      clear hy299
      replace H := Option.bind_eq_some_iff.mp H
      obtain ⟨⟨t302, t303⟩, A1450, H⟩ := H
      try dsimp -simprocs only at H
      have A145 := Aside0.mk A1450
      clear A1450
      simp only [Option.some.injEq, Prod.mk.injEq] at H
      obtain ⟨rfl, rfl, rfl, rfl, rfl, rfl, rfl, rfl, rfl⟩ := H
      go_wp2_with (first | ((with_reducible refine gc 120 rfl ?_); refine gl 73 Try.func120 #[.pointer (some ⟨g, 0, none⟩), .int .i64 60] ?_; (with_reducible refine (spec_l9Rd_pick.calls kj3 g s0_0 x1001_3 60 t287 t288 w0 _ ?side1 ?side2 A115.out).mono ?_); (case side1 => exact iis HI0.out); (case side2 => exact bs HB.out); rintro e w146 ⟨rfl, hi, hb, hk⟩; refine ⟨_, rfl, ?_⟩; replace BK251 := kk BK251 hk; replace BK252 := kk BK252 hk; replace BK258 := kk BK258 hk; replace HK := kt HK hk; replace HB := Aside0.mk (hb); replace HI0 := Aside0.mk (hi); (try clear hi hb hk)) | ((with_reducible refine gd 90 rfl ?_); refine Kd.R_lit (Kd.int .i64) _ 3 ?hg (N := 90) ?hd (xs := ([0, 8, (-1)] : List Int)) (inner := [.int .i64 0, .int .i64 8, .int .i64 (-1)]) (ok := fun _ => True) (okp := fun _ => True) ?hr ?hp (fun _ hk => hk) trivial (Below.refl _ _) (Nat.le_refl _) (by simp) ?_; (case hd => rfl); (case hg => rfl); (case hr => first | (go_simp; done) | (go_simp; rfl)); (case hp => exact (Reps.one (show Kd.M (Kd.int .i64) _ _ _ 0 [.int .i64 0] from rfl) (Reps.one (show Kd.M (Kd.int .i64) _ _ _ 8 [.int .i64 8] from rfl) (Reps.one (show Kd.M (Kd.int .i64) _ _ _ (-1) [.int .i64 (-1)] from rfl) (Reps.none _ _))))); intro v300 w147 ho148 hb hg_ hnew_; clear hg_ hnew_; (first | rw [← Ny299.out] at ho148 | (simp only [Int.reduceToNat] at ho148; rw [← Ny299.out] at ho148)); have HO301 := Aside0.mk (Kd.R_lower ho148 (keep_size (w := w) (g := g) (row := none) (ks HK.out))); replace BK251 := bb BK251 hb rfl; replace BK252 := bb BK252 hb rfl; replace BK258 := bb BK258 hb rfl; replace HI0 := ib HI0 hb; replace HK := kb HK hb; replace HB := hs HB hb; clear hb ho148; obtain ⟨Ao149, co149, eo149⟩ := Kd.R_slice HO301.out; subst eo149) | ((with_reducible refine gc 119 rfl ?_); refine gl 91 Try.func119 #[.pointer (some ⟨g, 0, none⟩), .slice Ao149 y299.length co149] ?_; (with_reducible refine (spec_l9Rd_num.calls kj3 g s0_0 t288 _ _ y299 t302 t303 w0 _ ?side1 ?side2 ?side3 ?side4 ?side5 A145.out).mono ?_); (case side1 => exact iis HI0.out); (case side2 => exact bs HB.out); (case side3 => exact cr HO301); (case side4 => exact (Kd.R_reads' HO301.out).2.1); (case side5 => exact far_slice (IsS126.own_ne HI0.out HO301.out (by decide))); rintro e w150 ⟨rfl, hi, hb, hk⟩; refine ⟨_, rfl, ?_⟩; replace BK251 := kk BK251 hk; replace BK252 := kk BK252 hk; replace BK258 := kk BK258 hk; replace HO301 := ro HO301 HI0 hk; replace HK := kt HK hk; replace HB := Aside0.mk (hb); replace HI0 := Aside0.mk (hi); (try clear hi hb hk); have hnb151 := NB258_251.out; have hnc151 := NB251_258.out; have hnb152 := NB258_252.out; have hnc152 := NB252_258.out; have hnb153 := NB258_0.out; have hnc153 := NB0_258.out; obtain ⟨hcz154_0, hcz154_1, hcz154_2, hcz154_3, hcz154_4, hcz154_5, hcz154_6, hcz154_7⟩ := bc8 (w := w150) BK258.out; have hfz154 := blk_frozen BK258.out; have hnb155 := NB252_251.out; have hnc155 := NB251_252.out; have hnb156 := NB252_0.out; have hnc156 := NB0_252.out; obtain ⟨hcz157_0, hcz157_1, hcz157_2, hcz157_3, hcz157_4, hcz157_5, hcz157_6, hcz157_7⟩ := bc8 (w := w150) BK252.out; have hfz157 := blk_frozen BK252.out))
      refine bodyPost_ret (results_cell_row rfl _ _ gb252 58 #[.int .i64 t256, .int .i64 x259001_3, .int .i64 x259002_3, .int .i64 t302, .int .i64 x259004_3, .int .i64 x259005_3, .int .i64 x259006_3, .int .i64 x259007_3] (0, 0) _ rfl (bp BK252.out rfl) Try.underlying58 rfl (by kernel_rfl)) rfl ?_
      exact ⟨eqr, iis HI0.out, bs HB.out, ks HK.out⟩
     ·rw [if_neg c144] at H
      have c144b0 : (t287 == 2) = false := beq_eq_false_iff_ne.mpr c144
      have c144b1 : (t287 != 2) = true := bne_iff_ne.mpr c144
      by_cases c158 : t287 = 3
      ·rw [if_pos c158] at H
       have c158b0 : (t287 == 3) = true := beq_iff_eq.mpr c158
       have c158b1 : (t287 != 3) = false := bne_eq_false_iff_eq.mpr c158
       clear c158
       simp only [Option.some.injEq, Prod.mk.injEq] at H
       obtain ⟨rfl, rfl, rfl, rfl, rfl, rfl, rfl, rfl, rfl⟩ := H
       go_wp2_with (first | ((with_reducible refine gc 120 rfl ?_); refine gl 73 Try.func120 #[.pointer (some ⟨g, 0, none⟩), .int .i64 60] ?_; (with_reducible refine (spec_l9Rd_pick.calls kj3 g s0_0 x1001_3 60 t287 t288 w0 _ ?side1 ?side2 A115.out).mono ?_); (case side1 => exact iis HI0.out); (case side2 => exact bs HB.out); rintro e w159 ⟨rfl, hi, hb, hk⟩; refine ⟨_, rfl, ?_⟩; replace BK251 := kk BK251 hk; replace BK252 := kk BK252 hk; replace BK258 := kk BK258 hk; replace HK := kt HK hk; replace HB := Aside0.mk (hb); replace HI0 := Aside0.mk (hi); (try clear hi hb hk); have hnb160 := NB258_251.out; have hnc160 := NB251_258.out; have hnb161 := NB258_252.out; have hnc161 := NB252_258.out; have hnb162 := NB258_0.out; have hnc162 := NB0_258.out; obtain ⟨hcz163_0, hcz163_1, hcz163_2, hcz163_3, hcz163_4, hcz163_5, hcz163_6, hcz163_7⟩ := bc8 (w := w159) BK258.out; have hfz163 := blk_frozen BK258.out; have hnb164 := NB252_251.out; have hnc164 := NB251_252.out; have hnb165 := NB252_0.out; have hnc165 := NB0_252.out; obtain ⟨hcz166_0, hcz166_1, hcz166_2, hcz166_3, hcz166_4, hcz166_5, hcz166_6, hcz166_7⟩ := bc8 (w := w159) BK252.out; have hfz166 := blk_frozen BK252.out))
       refine bodyPost_ret (results_cell_row rfl _ _ gb252 58 #[.int .i64 t256, .int .i64 x259001_3, .int .i64 x259002_3, .int .i64 x259003_3, .int .i64 x259004_3, .int .i64 x259005_3, .int .i64 x259004_3, .int .i64 x259005_3] (0, 0) _ rfl (bp BK252.out rfl) Try.underlying58 rfl (by kernel_rfl)) rfl ?_
       exact ⟨eqr, iis HI0.out, bs HB.out, ks HK.out⟩
      ·rw [if_neg c158] at H
       have c158b0 : (t287 == 3) = false := beq_eq_false_iff_ne.mpr c158
       have c158b1 : (t287 != 3) = true := bne_iff_ne.mpr c158
       simp only [Option.some.injEq, Prod.mk.injEq] at H
       obtain ⟨rfl, rfl, rfl, rfl, rfl, rfl, rfl, rfl, rfl⟩ := H
       go_wp2_with (first | ((with_reducible refine gc 120 rfl ?_); refine gl 73 Try.func120 #[.pointer (some ⟨g, 0, none⟩), .int .i64 60] ?_; (with_reducible refine (spec_l9Rd_pick.calls kj3 g s0_0 x1001_3 60 t287 t288 w0 _ ?side1 ?side2 A115.out).mono ?_); (case side1 => exact iis HI0.out); (case side2 => exact bs HB.out); rintro e w167 ⟨rfl, hi, hb, hk⟩; refine ⟨_, rfl, ?_⟩; replace BK251 := kk BK251 hk; replace BK252 := kk BK252 hk; replace BK258 := kk BK258 hk; replace HK := kt HK hk; replace HB := Aside0.mk (hb); replace HI0 := Aside0.mk (hi); (try clear hi hb hk); have hnb168 := NB258_251.out; have hnc168 := NB251_258.out; have hnb169 := NB258_252.out; have hnc169 := NB252_258.out; have hnb170 := NB258_0.out; have hnc170 := NB0_258.out; obtain ⟨hcz171_0, hcz171_1, hcz171_2, hcz171_3, hcz171_4, hcz171_5, hcz171_6, hcz171_7⟩ := bc8 (w := w167) BK258.out; have hfz171 := blk_frozen BK258.out; have hnb172 := NB252_251.out; have hnc172 := NB251_252.out; have hnb173 := NB252_0.out; have hnc173 := NB0_252.out; obtain ⟨hcz174_0, hcz174_1, hcz174_2, hcz174_3, hcz174_4, hcz174_5, hcz174_6, hcz174_7⟩ := bc8 (w := w167) BK252.out; have hfz174 := blk_frozen BK252.out))
       refine bodyPost_ret (results_cell_row rfl _ _ gb252 58 #[.int .i64 t256, .int .i64 x259001_3, .int .i64 x259002_3, .int .i64 x259003_3, .int .i64 x259004_3, .int .i64 x259005_3, .int .i64 x259006_3, .int .i64 x259007_3] (0, 0) _ rfl (bp BK252.out rfl) Try.underlying58 rfl (by kernel_rfl)) rfl ?_
       exact ⟨eqr, iis HI0.out, bs HB.out, ks HK.out⟩

end Go.Proofs.Ytohmemckdogljaa.QFnGraphView
