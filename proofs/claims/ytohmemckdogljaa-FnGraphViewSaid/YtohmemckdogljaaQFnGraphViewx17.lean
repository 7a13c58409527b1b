/- Contracts of the Go functions that this law reaches: each does what its plain Lean function says. No condition. -/
import Derived.Test.YtohmemckdogljaaQFnGraphViewx0
import Derived.Test.YtohmemckdogljaaQFnGraphViewx8
import Derived.Test.YtohmemckdogljaaQFnGraphViewx11
import Derived.Test.YtohmemckdogljaaQFnGraphViewx12
namespace Go.Proofs.Ytohmemckdogljaa.QFnGraphView
open Go.RowKit Go.Proofs.YtohmemckdogljaaW.PrintWords Go.Proofs.YtohmemckdogljaaW.PrintLast Go.Proofs.YtohmemckdogljaaW.PrintMore Go.Proofs.Ytohmemckdogljaa.Bl
attribute [local go_sem] max2_int min2_int max_two min_two max_three min_three max_four min_four   -- for this text's walks alone
set_option linter.unusedVariables false
set_option linter.unusedSimpArgs false
set_option maxHeartbeats 8000000
set_option maxRecDepth 100000

/-! ### spec_l2Bent: function 88 -/
def spec_l2Bent.l0 : Nat → Int → List Int → Int → List (S36) → List (S56) → Option ((List (S36)) × (List (S56)) × Int)
 | 0, _, _, _, _, _ => none
 | k + 1, x8, x1000, x1001, x531000, x531001 => if x8 < 36 then ((spec_l2PutNode.f k x531000 x531001 5 x8).bind fun bt560 => (spec_l2Bent.l0 k (wrap64 (x8 + 1)) x1000 x1001 bt560.1 bt560.2)) else (some (x531000, x531001, x1001))
def spec_l2Bent.f (k : Nat) (s0_0 : List Int) (s0_1 : Int) (l1_0 : List (S36)) (l1_1 : List (S56)) : Option ((List (S36)) × (List (S56)) × Int) := (spec_l2Copy.f l1_0 l1_1).bind fun bt524 => ((spec_l9Rd_pick.f k s0_0 s0_1 60).bind fun bt531 => (if bt531.1 = 0 then (if (bt524.1.length : Int) > 0 then ((spec_l9Rd_pick.f k s0_0 bt531.2 (bt524.1.length : Int)).bind fun bt533 => ((spec_l9Rd_num.f k s0_0 bt533.2 (([(-1), 41, 39] : List Int))).bind fun bt538 => (if 0 ≤ bt533.1 then (if bt533.1 < (bt524.1.length : Int) then (some ((bt524.1.set (bt533.1 : Int).toNat (⟨(rd_T36 bt524.1 bt533.1).f0, bt538.1⟩ : S36)), bt524.2, bt538.2)) else (none)) else (none)))) else (some (bt524.1, bt524.2, bt531.2))) else (if bt531.1 = 1 then (if (bt524.1.length : Int) > 0 then (if 0 < (bt524.1.length : Int) then (if bt524.1.length < 8796093022208 then (some ((bt524.1 ++ [(⟨(rd_T36 bt524.1 0).f0, (rd_T36 bt524.1 0).f1⟩ : S36)]), bt524.2, bt531.2)) else (none)) else (none)) else (some (bt524.1, bt524.2, bt531.2))) else (if bt531.1 = 2 then (if (bt524.1.length : Int) > 0 then (if 1 ≤ (bt524.1.length : Int) then (some ((bt524.1.drop (1 : Int).toNat), bt524.2, bt531.2)) else (none)) else (some (bt524.1, bt524.2, bt531.2))) else (if bt531.1 = 3 then (if (bt524.2.length : Int) > 0 then ((spec_l9Rd_pick.f k s0_0 bt531.2 (bt524.2.length : Int)).bind fun bt548 => ((spec_l9Rd_num.f k s0_0 bt548.2 (([0, 8, (-1), 7] : List Int))).bind fun bt553 => (if 0 ≤ bt548.1 then (if bt548.1 < (bt524.2.length : Int) then (some (bt524.1, (bt524.2.set (bt548.1 : Int).toNat (⟨bt553.1, (⟨(rd_T56 bt524.2 bt548.1).f1.f0, (rd_T56 bt524.2 bt548.1).f1.f1⟩ : S36), (⟨(rd_T56 bt524.2 bt548.1).f2.f0, (rd_T56 bt524.2 bt548.1).f2.f1⟩ : S36)⟩ : S56)), bt553.2)) else (none)) else (none)))) else (some (bt524.1, bt524.2, bt531.2))) else (if bt531.1 = 4 then (if (bt524.2.length : Int) > 0 then (if 0 < (bt524.2.length : Int) then (if bt524.2.length < 3518437208883 then (some (bt524.1, (bt524.2 ++ [(⟨(rd_T56 bt524.2 0).f0, (⟨(rd_T56 bt524.2 0).f1.f0, (rd_T56 bt524.2 0).f1.f1⟩ : S36), (⟨(rd_T56 bt524.2 0).f2.f0, (rd_T56 bt524.2 0).f2.f1⟩ : S36)⟩ : S56)]), bt531.2)) else (none)) else (none)) else (some (bt524.1, bt524.2, bt531.2))) else (if bt531.1 = 5 then (spec_l2Bent.l0 k 30 s0_0 bt531.2 bt524.1 bt524.2) else (some (bt524.1, bt524.2, bt531.2)))))))))
def spec_l2Bent.T7 : Bool × List (List Nat × List Nat) := (true, [([], []), ([0], [0]), ([], []), ([], []), ([2, 3], [2, 3]), ([], []), ([], []), ([5, 6, 4], [5, 6]), ([1, 4, 0, 1, 2, 3, 4, 5, 6, 7], [1, 4]), ([8, 0, 1, 2, 3, 4, 5, 6, 7], [8]), ([9, 7, 7, 0, 1, 2, 3, 4, 5, 6, 7], [7, 9])])
def spec_l2Bent.B7 : List Nat := [0, 1, 0, 0, 12, 0, 0, 124, 255, 511, 1023]
theorem spec_l2Bent.tab7 : rtab .any (opsOf Try.f88 7) = spec_l2Bent.T7 := by kernel_rfl
theorem spec_l2Bent.bits7 : waitsOk spec_l2Bent.T7.2 spec_l2Bent.B7 = true := by kernel_rfl
def spec_l2Bent.T10 : Bool × List (List Nat × List Nat) := (true, [([], []), ([0], [0]), ([], []), ([2], [2]), ([3], [3]), ([4], [4]), ([5], [5]), ([1, 6], [1, 6]), ([0, 1, 2, 3, 4, 5, 6, 7], []), ([8, 7, 7, 0, 1, 2, 3, 4, 5, 6, 7], [7, 8])])
def spec_l2Bent.B10 : List Nat := [0, 1, 0, 4, 12, 28, 60, 127, 255, 511]
theorem spec_l2Bent.tab10 : rtab .any (opsOf Try.f88 10) = spec_l2Bent.T10 := by kernel_rfl
theorem spec_l2Bent.bits10 : waitsOk spec_l2Bent.T10.2 spec_l2Bent.B10 = true := by kernel_rfl
def spec_l2Bent.T16 : Bool × List (List Nat × List Nat) := (true, [([], []), ([0], [0]), ([], []), ([], []), ([2, 3], [2, 3]), ([], []), ([], []), ([5, 6, 4], [5, 6]), ([1, 4, 0, 1, 2, 3, 4, 5, 6, 7], [1, 4]), ([8, 0, 1, 2, 3, 4, 5, 6, 7], [8]), ([9, 7, 7, 0, 1, 2, 3, 4, 5, 6, 7], [7, 9])])
def spec_l2Bent.B16 : List Nat := [0, 1, 0, 0, 12, 0, 0, 124, 255, 511, 1023]
theorem spec_l2Bent.tab16 : rtab .any (opsOf Try.f88 16) = spec_l2Bent.T16 := by kernel_rfl
theorem spec_l2Bent.bits16 : waitsOk spec_l2Bent.T16.2 spec_l2Bent.B16 = true := by kernel_rfl
def spec_l2Bent.T19 : Bool × List (List Nat × List Nat) := (true, [([], []), ([0], [0]), ([], []), ([2], [2]), ([3], [3]), ([4], [4]), ([5], [5]), ([1, 6], [1, 6]), ([0, 1, 2, 3, 4, 5, 6, 7], []), ([8, 7, 7, 0, 1, 2, 3, 4, 5, 6, 7], [7, 8])])
def spec_l2Bent.B19 : List Nat := [0, 1, 0, 4, 12, 28, 60, 127, 255, 511]
theorem spec_l2Bent.tab19 : rtab .any (opsOf Try.f88 19) = spec_l2Bent.T19 := by kernel_rfl
theorem spec_l2Bent.bits19 : waitsOk spec_l2Bent.T19.2 spec_l2Bent.B19 = true := by kernel_rfl
theorem spec_l2Bent.calls (k : Nat) (g : Nat) (s0_0 : List Int) (s0_1 : Int) (A1_0 : Option Addr) (c1_0 : Nat) (l1_0 : List (S36)) (A1_1 : Option Addr) (c1_1 : Nat) (l1_1 : List (S56)) (r1 : List (S36)) (r2 : List (S56)) (r3 : Int) (w0 w : World) (hI : IsS126 w0 w g s0_0 s0_1) (hB : Below w0.heap.size w0 w) (hr1_0 : ∀ W_, KeepBut w W_ g none → Kd.C k36 W_ A1_0 l1_0.length l1_0) (hc1_0 : l1_0.length ≤ c1_0) (hr1_1 : ∀ W_, KeepBut w W_ g none → Kd.C k56 W_ A1_1 l1_1.length l1_1) (hc1_1 : l1_1.length ≤ c1_1) (h : spec_l2Bent.f k s0_0 s0_1 l1_0 l1_1 = some (r1, r2, r3)) :
  Calls Try.prog 88 #[.pointer (some ⟨g, 0, none⟩), .agg #[.slice A1_0 l1_0.length c1_0, .slice A1_1 l1_1.length c1_1]] w fun e w' => ∃ v0_ v1_ : Value, e = .returned (.agg #[v0_, v1_]) ∧ Kd.Q k36 36 w' w.heap.size (fun _ => True) v0_ r1 ∧ Kd.R k56 56 w' w.heap.size (fun _ => True) v1_ r2 ∧ IsS126 w0 w' g s0_0 r3 ∧ Below w0.heap.size w0 w' ∧ KeepBut w w' g none := by
 have hu34 := Try.underlying34
 have hu36 := Try.underlying36
 have hu56 := Try.underlying56
 have HR1_0 := Aside0.mk hr1_0
 have HC1_0 := Aside0.mk hc1_0
 clear hr1_0 hc1_0
 have HR1_1 := Aside0.mk hr1_1
 have HC1_1 := Aside0.mk hc1_1
 clear hr1_1 hc1_1
 have HI0 := Aside0.mk hI
 have GEg_ : Ge w0 g := ⟨IsS126.ge HI0.out⟩
 have HK := Aside0.mk (KeepBut.refl w g none)
 have HL := Aside0.mk hB.size
 clear hI
 have HW0 := Aside0.mk hB.size
 have HB := Aside0.mk hB
 clear hB
 have H := h; unfold spec_l2Bent.f at H
 clear h
 replace H := Option.bind_eq_some_iff.mp H
 obtain ⟨⟨t524, t527⟩, A30, H⟩ := H
 try dsimp -simprocs only at H
 have A3 := Aside0.mk A30
 clear A30
 replace H := Option.bind_eq_some_iff.mp H
 obtain ⟨⟨t531, t532⟩, A40, H⟩ := H
 try dsimp -simprocs only at H
 have A4 := Aside0.mk A40
 clear A40
 by_cases c5 : t531 = 0
 ·rw [if_pos c5] at H
  have c5b0 : (t531 == 0) = true := beq_iff_eq.mpr c5
  have c5b1 : (t531 != 0) = false := bne_eq_false_iff_eq.mpr c5
  clear c5
  by_cases c6 : (t524.length : Int) > 0
  ·rw [if_pos c6] at H
   have c6b0 : decide (0 < (t524.length : Int)) = true := decide_eq_true c6
   have c6b1 : decide (0 < t524.length) = true := decide_eq_true (by omega)
   clear c6
   replace H := Option.bind_eq_some_iff.mp H
   obtain ⟨⟨t533, t534⟩, A70, H⟩ := H
   try dsimp -simprocs only at H
   have A7 := Aside0.mk A70
   clear A70
   obtain ⟨y535, hy535⟩ : ∃ y_ : List Int, y_ = (([(-1), 41, 39] : List Int)) := ⟨_, rfl⟩
   replace H : ((spec_l9Rd_num.f k s0_0 t534 y535).bind fun bt538 => (if 0 ≤ t533 then (if t533 < (t524.length : Int) then (some ((t524.set (t533 : Int).toNat (⟨(rd_T36 t524 t533).f0, bt538.1⟩ : S36)), t527, bt538.2)) else (none)) else (none))) = some (r1, r2, r3) := by first | (rw [hy535]; exact H) | exact H
   have Ny535 := Aside0.mk hy535
   clear hy535
   replace H := Option.bind_eq_some_iff.mp H
   obtain ⟨⟨t538, t539⟩, A80, H⟩ := H
   try dsimp -simprocs only at H
   have A8 := Aside0.mk A80
   clear A80
   by_cases c9 : 0 ≤ t533
   ·rw [if_pos c9] at H
    have c9b0 : decide (0 ≤ t533) = true := decide_eq_true c9
    clear c9
    by_cases c10 : t533 < (t524.length : Int)
    ·rw [if_pos c10] at H
     have c10b0 : decide (t533 < (t524.length : Int)) = true := decide_eq_true c10
     clear c10
     obtain ⟨y540, hy540⟩ : ∃ y_ : List (S36), y_ = (t524.set (t533 : Int).toNat (⟨(rd_T36 t524 t533).f0, t538⟩ : S36)) := ⟨_, rfl⟩
     replace H : (some (y540, t527, t539)) = some (r1, r2, r3) := by first | (rw [hy540]; exact H) | exact H
     have Ny540 := Aside0.mk hy540
     clear hy540
     simp only [Option.some.injEq, Prod.mk.injEq] at H
     obtain ⟨rfl, rfl, rfl⟩ := H
     go_enter Try.func88, Try.ntmps88
     try go_wp2_with (first | ((with_reducible refine gd 3 rfl ?_); refine bx 3 (cs := #[.slice A1_0 l1_0.length c1_0, .slice A1_1 l1_1.length c1_1]) (t := 34) ?_; intro gb522 hg w12 hbox hb; replace HB := hs HB hb; have BK522 := Aside0.mk (hbox); have GW522 := gwk HK hg; have GE522 := gew HW0 GW522; replace HK := kb HK hb; have NB0_522 := nlt HI0 hg; have NB522_0 := nsy NB0_522; replace HI0 := ib HI0 hb; clear hb hbox hg) | ((with_reducible refine gd 4 rfl ?_); refine bx 4 (cs := #[.slice none 0 0, .slice none 0 0]) (t := 34) ?_; intro gb523 hg w13 hbox hb; replace HB := hs HB hb; have BK523 := Aside0.mk (hbox); have GW523 := gwk HK hg; have GE523 := gew HW0 GW523; replace HK := kb HK hb; have NB522_523 := nq BK522 hg; have NB523_522 := nq' BK522 hg; replace BK522 := bb BK522 hb rfl; have NB0_523 := nlt HI0 hg; have NB523_0 := nsy NB0_523; replace HI0 := ib HI0 hb; clear hb hbox hg; have hnb14 := NB522_523.out; have hnc14 := NB523_522.out; have hnb15 := NB522_0.out; have hnc15 := NB0_522.out; obtain ⟨hcz16_0, hcz16_1⟩ := bc2 (w := w13) BK522.out; have hfz16 := blk_frozen BK522.out) | ((with_reducible refine gc 97 rfl ?_); refine gl 10 Try.func97 #[.agg #[.slice A1_0 l1_0.length c1_0, .slice A1_1 l1_1.length c1_1]] ?_; (with_reducible refine (spec_l2Copy.calls _ _ l1_0 _ _ l1_1 t524 t527 _ ?side1 ?side2 ?side3 ?side4 A3.out).mono ?_); (case side1 => exact Kd.C_foot_now HR1_0.out (ks HK.out)); (case side2 => exact HC1_0.out); (case side3 => exact Kd.C_foot_now HR1_1.out (ks HK.out)); (case side4 => exact HC1_1.out); rintro e w17 ⟨v525, v528, rfl, ho0, ho1, hb⟩; refine ⟨_, rfl, ?_⟩; have HO526 := Aside0.mk (Kd.R_lower ho0 (keep_size (w := w) (g := g) (row := none) (ks HK.out))); have HO529 := Aside0.mk (Kd.R_lower ho1 (keep_size (w := w) (g := g) (row := none) (ks HK.out))); replace HI0 := ib HI0 hb; replace BK522 := bb BK522 hb rfl; replace BK523 := bb BK523 hb rfl; replace HK := kb HK hb; replace HB := hs HB hb; (try clear ho0 ho1 hb)) | ((with_reducible refine gd 5 rfl ?_); refine bx 5 (cs := #[.slice none 0 0, .slice none 0 0]) (t := 34) ?_; intro gb530 hg w18 hbox hb; replace HO526 := rb HO526 hb; replace HO529 := rb HO529 hb; replace HB := hs HB hb; have BK530 := Aside0.mk (hbox); have GW530 := gwk HK hg; have GE530 := gew HW0 GW530; replace HK := kb HK hb; have NB522_530 := nq BK522 hg; have NB530_522 := nq' BK522 hg; replace BK522 := bb BK522 hb rfl; have NB523_530 := nq BK523 hg; have NB530_523 := nq' BK523 hg; replace BK523 := bb BK523 hb rfl; have NB0_530 := nlt HI0 hg; have NB530_0 := nsy NB0_530; replace HI0 := ib HI0 hb; clear hb hbox hg; obtain ⟨Ao19, co19, eo19⟩ := Kd.R_slice HO526.out; subst eo19; have hnb20 := NB530_522.out; have hnc20 := NB522_530.out; have hnb21 := NB530_523.out; have hnc21 := NB523_530.out; have hnb22 := NB530_0.out; have hnc22 := NB0_530.out; obtain ⟨hcz23_0, hcz23_1⟩ := bc2 (w := w18) BK530.out; have hfz23 := blk_frozen BK530.out; obtain ⟨Ao24, co24, eo24⟩ := Kd.R_slice HO529.out; subst eo24) | ((with_reducible refine gc 120 rfl ?_); refine gl 18 Try.func120 #[.pointer (some ⟨g, 0, none⟩), .int .i64 60] ?_; (with_reducible refine (spec_l9Rd_pick.calls k g s0_0 s0_1 60 t531 t532 w0 _ ?side1 ?side2 A4.out).mono ?_); (case side1 => exact iis HI0.out); (case side2 => exact bs HB.out); rintro e w25 ⟨rfl, hi, hb, hk⟩; refine ⟨_, rfl, ?_⟩; replace BK522 := kk BK522 hk; replace BK523 := kk BK523 hk; replace HO526 := rp HO526 BK530 HI0 hk; replace HO529 := rp HO529 BK530 HI0 hk; replace BK530 := kp #[.slice Ao19 t524.length co19, .slice Ao24 t527.length co24] BK530 hk; replace HK := kt HK hk; replace HB := Aside0.mk (hb); replace HI0 := Aside0.mk (hi); (try clear hi hb hk)))
     replace HO526 := rd_ HO526
     replace HO529 := rd_ HO529
     replace BK522 := bd BK522
     replace BK523 := bd BK523
     replace BK530 := bd BK530
     replace HI0 := Aside0.mk (IsS126.drew HI0.out)
     replace HK := Aside0.mk (keep_drew HK.out)
     replace HB := hd HB
     refine start_ (n := 11) (S := fun w' => w'.cell? ⟨gb530, 0, none⟩ = some (.slice Ao19 t524.length co19) ∧ w'.cell? ⟨gb530, 1, none⟩ = some (.slice Ao24 t527.length co24)) (ds := [10]) #[false, false, false, false, false, false, false, false, false, false, false] (by kernel_rfl) rfl rfl ⟨(blk_cell BK530.out 0).trans rfl, (blk_cell BK530.out 1).trans rfl⟩ (fun hHeld => ?_); refine with_tabW spec_l2Bent.tab7 spec_l2Bent.bits7 (fun HT_ HW_ => ?_)
     generalize w25.drew = w26 at HO526 HO529 BK522 BK523 BK530 HI0 HK HB hHeld ⊢
     refine pu 0 23 ?_
     refine pu 2 25 ?_
     refine pu 3 26 ?_
     refine pu 5 28 ?_
     refine tk 1 24 ?_
     refine join_ (σ := Value) 4 #[true, true, true, true, true, true, true, false, false, false, false] (fun s_ => [(27, .int .i64 t533), (29, s_)]) (fun s_ w' => (w'.cell? ⟨gb530, 0, none⟩ = some (.slice Ao19 t524.length co19) ∧ w'.cell? ⟨gb530, 1, none⟩ = some (.slice Ao24 t527.length co24)) ∧ (Kd.R k36 36 w' w.heap.size (fun _ => True) (.slice Ao19 t524.length co19) t524) ∧ (Kd.R k56 56 w' w.heap.size (fun _ => True) (.slice Ao24 t527.length co24) t527) ∧ (Kd.R (Kd.int .i64) 3 w' w.heap.size (fun _ => True) s_ y535) ∧ (w'.heap[gb522]? = some (.cells #[.slice A1_0 l1_0.length c1_0, .slice A1_1 l1_1.length c1_1] 34 (0, 0))) ∧ (w'.heap[gb523]? = some (.cells #[.slice none 0 0, .slice none 0 0] 34 (0, 0))) ∧ (w'.heap[gb530]? = some (.cells #[.slice Ao19 t524.length co19, .slice Ao24 t527.length co24] 34 (0, 0))) ∧ (IsS126 w0 w' g s0_0 t534) ∧ (KeepBut w w' g none) ∧ (Below w0.heap.size w0 w')) ?_ ?_
     rotate_left
     ·intro hCont
      refine two_ (i := 4) (j := 6) (Ni := some 27) (Nj := some 29) #[true, true, true, true, true, true, false, false, false, false, false] #[true, true, true, true, false, true, true, false, false, false, false] rfl rfl rfl rfl (two_of HT_.out (by kernel_rfl)) (by decide) (by decide) (fun K hK => ?_) (fun K hK => ?_)
      ·skip
       refine gs Try.func120 #[.pointer (some ⟨g, 0, none⟩), .int .i64 (t524.length : Int)] ?_
       with_reducible refine (spec_l9Rd_pick.calls k g s0_0 t532 (t524.length : Int) t533 t534 w0 _ ?side1 ?side2 A7.out).mono ?_
       (case side1 => exact iis HI0.out)
       (case side2 => exact bs HB.out)
       rintro e w27 ⟨rfl, hi, hb, hk⟩
       refine ⟨_, rfl, ?_⟩
       replace BK522 := kk BK522 hk
       replace BK523 := kk BK523 hk
       replace HO526 := ro HO526 HI0 hk
       replace HO529 := ro HO529 HI0 hk
       replace BK530 := kk BK530 hk
       replace HK := kt HK hk
       replace HB := Aside0.mk (hb)
       replace HI0 := Aside0.mk (hi)
       (try clear hb)
       (try clear hb2)
       (try clear hk)
       (try clear hi)
       refine hK.out _ _ ⟨(blk_cell BK530.out 0).trans rfl, (blk_cell BK530.out 1).trans rfl⟩ (fun hHeld => ?_)
       clear hK K
       refine nrm 27 ?_
       refine one_ (i := 6) (N := some 29) #[true, true, true, true, true, true, true, false, false, false, false] rfl rfl (one_of HT_.out (by kernel_rfl)) (by decide) (fun K hK => ?_)
       refine Kd.R_lit_step (Kd.int .i64) _ 3 ?hg (N := 29) ?hd (xs := ([(-1), 41, 39] : List Int)) (inner := [.int .i64 (-1), .int .i64 41, .int .i64 39]) (ok := fun _ => True) (okp := fun _ => True) ?hr ?hp (fun _ hk => hk) trivial (Below.refl _ _) (Nat.le_refl _) (by simp) ?_; (case hd => rfl); (case hg => rfl); (case hr => first | (go_simp; done) | (go_simp; rfl)); (case hp => exact (Reps.one (show Kd.M (Kd.int .i64) _ _ _ (-1) [.int .i64 (-1)] from rfl) (Reps.one (show Kd.M (Kd.int .i64) _ _ _ 41 [.int .i64 41] from rfl) (Reps.one (show Kd.M (Kd.int .i64) _ _ _ 39 [.int .i64 39] from rfl) (Reps.none _ _)))))
       intro v536 w28 ho29 hb hg_ hnew_
       clear hg_ hnew_
       (first | rw [← Ny535.out] at ho29 | (simp only [Int.reduceToNat] at ho29; rw [← Ny535.out] at ho29))
       replace HO526 := rb HO526 hb
       replace HO529 := rb HO529 hb
       have HO537 := Aside0.mk (Kd.R_lower ho29 (keep_size (w := w) (g := g) (row := none) (ks HK.out)))
       replace HI0 := ib HI0 hb
       replace BK522 := bb BK522 hb rfl
       replace BK523 := bb BK523 hb rfl
       replace BK530 := bb BK530 hb rfl
       replace HK := kb HK hb
       replace HB := hs HB hb
       clear hb ho29
       refine hK.out _ _ ⟨(blk_cell BK530.out 0).trans rfl, (blk_cell BK530.out 1).trans rfl⟩ (fun hHeld => ?_)
       clear hK K
       refine nrm 29 ?_
       exact norm_ (by simp only [putAll, Act.put, List.setIfInBounds_toArray, List.set_cons_zero, List.set_cons_succ]) (hCont (v536) _ ⟨hHeld, (rl HO526.out), (rl HO529.out), (rl HO537.out), (bf BK522.out), (bf BK523.out), (bf BK530.out), (iis HI0.out), (ks HK.out), (bs HB.out)⟩)
      ·skip
       refine Kd.R_lit_step (Kd.int .i64) _ 3 ?hg (N := 29) ?hd (xs := ([(-1), 41, 39] : List Int)) (inner := [.int .i64 (-1), .int .i64 41, .int .i64 39]) (ok := fun _ => True) (okp := fun _ => True) ?hr ?hp (fun _ hk => hk) trivial (Below.refl _ _) (Nat.le_refl _) (by simp) ?_; (case hd => rfl); (case hg => rfl); (case hr => first | (go_simp; done) | (go_simp; rfl)); (case hp => exact (Reps.one (show Kd.M (Kd.int .i64) _ _ _ (-1) [.int .i64 (-1)] from rfl) (Reps.one (show Kd.M (Kd.int .i64) _ _ _ 41 [.int .i64 41] from rfl) (Reps.one (show Kd.M (Kd.int .i64) _ _ _ 39 [.int .i64 39] from rfl) (Reps.none _ _)))))
       intro v536 w27 ho28 hb hg_ hnew_
       clear hg_ hnew_
       (first | rw [← Ny535.out] at ho28 | (simp only [Int.reduceToNat] at ho28; rw [← Ny535.out] at ho28))
       replace HO526 := rb HO526 hb
       replace HO529 := rb HO529 hb
       have HO537 := Aside0.mk (Kd.R_lower ho28 (keep_size (w := w) (g := g) (row := none) (ks HK.out)))
       replace HI0 := ib HI0 hb
       replace BK522 := bb BK522 hb rfl
       replace BK523 := bb BK523 hb rfl
       replace BK530 := bb BK530 hb rfl
       replace HK := kb HK hb
       replace HB := hs HB hb
       clear hb ho28
       refine hK.out _ _ ⟨(blk_cell BK530.out 0).trans rfl, (blk_cell BK530.out 1).trans rfl⟩ (fun hHeld => ?_)
       clear hK K
       refine nrm 29 ?_
       refine one_ (i := 4) (N := some 27) #[true, true, true, true, true, true, true, false, false, false, false] rfl rfl (one_of HT_.out (by kernel_rfl)) (by decide) (fun K hK => ?_)
       refine gs Try.func120 #[.pointer (some ⟨g, 0, none⟩), .int .i64 (t524.length : Int)] ?_
       with_reducible refine (spec_l9Rd_pick.calls k g s0_0 t532 (t524.length : Int) t533 t534 w0 _ ?side1 ?side2 A7.out).mono ?_
       (case side1 => exact iis HI0.out)
       (case side2 => exact bs HB.out)
       rintro e w29 ⟨rfl, hi, hb, hk⟩
       refine ⟨_, rfl, ?_⟩
       replace BK522 := kk BK522 hk
       replace BK523 := kk BK523 hk
       replace HO526 := ro HO526 HI0 hk
       replace HO529 := ro HO529 HI0 hk
       replace BK530 := kk BK530 hk
       replace HO537 := ro HO537 HI0 hk
       replace HK := kt HK hk
       replace HB := Aside0.mk (hb)
       replace HI0 := Aside0.mk (hi)
       (try clear hb)
       (try clear hb2)
       (try clear hk)
       (try clear hi)
       refine hK.out _ _ ⟨(blk_cell BK530.out 0).trans rfl, (blk_cell BK530.out 1).trans rfl⟩ (fun hHeld => ?_)
       clear hK K
       refine nrm 27 ?_
       exact norm_ (by simp only [putAll, Act.put, List.setIfInBounds_toArray, List.set_cons_zero, List.set_cons_succ]) (hCont (v536) _ ⟨hHeld, (rl HO526.out), (rl HO529.out), (rl HO537.out), (bf BK522.out), (bf BK523.out), (bf BK530.out), (iis HI0.out), (ks HK.out), (bs HB.out)⟩)
     rintro v536 w30 ⟨hS_, h0_, h1_, h2_, h3_, h4_, h5_, h6_, h7_, h8_⟩
     have n0_ : Aside0 (Kd.R k36 36 w30 w.heap.size (fun _ => True) (.slice Ao19 t524.length co19) t524) := ⟨h0_⟩
     have n1_ : Aside0 (Kd.R k56 56 w30 w.heap.size (fun _ => True) (.slice Ao24 t527.length co24) t527) := ⟨h1_⟩
     have n2_ : Aside0 (Kd.R (Kd.int .i64) 3 w30 w.heap.size (fun _ => True) v536 y535) := ⟨h2_⟩
     have n3_ : Aside0 (w30.heap[gb522]? = some (.cells #[.slice A1_0 l1_0.length c1_0, .slice A1_1 l1_1.length c1_1] 34 (0, 0))) := ⟨h3_⟩
     have n4_ : Aside0 (w30.heap[gb523]? = some (.cells #[.slice none 0 0, .slice none 0 0] 34 (0, 0))) := ⟨h4_⟩
     have n5_ : Aside0 (w30.heap[gb530]? = some (.cells #[.slice Ao19 t524.length co19, .slice Ao24 t527.length co24] 34 (0, 0))) := ⟨h5_⟩
     have n6_ : Aside0 (IsS126 w0 w30 g s0_0 t534) := ⟨h6_⟩
     have n7_ : Aside0 (KeepBut w w30 g none) := ⟨h7_⟩
     have n8_ : Aside0 (Below w0.heap.size w0 w30) := ⟨h8_⟩
     clear HO526
     clear HO529
     clear BK522
     clear BK523
     clear BK530
     clear HI0
     clear HK
     clear HB
     clear h0_ h1_ h2_ h3_ h4_ h5_ h6_ h7_ h8_
     have HO526 := n0_
     have HO529 := n1_
     have HO537 := n2_
     have BK522 := n3_
     have BK523 := n4_
     have BK530 := n5_
     have HI0 := n6_
     have HK := n7_
     have HB := n8_
     clear n0_ n1_ n2_ n3_ n4_ n5_ n6_ n7_ n8_
     have hHeld : w30.cell? ⟨gb530, 0, none⟩ = some (.slice Ao19 t524.length co19) ∧ w30.cell? ⟨gb530, 1, none⟩ = some (.slice Ao24 t527.length co24) := hS_
     obtain ⟨Ao31, co31, eo31⟩ := Kd.R_slice HO537.out
     (first | subst eo31 | (injection eo31 with f1_ f2_ f3_; have f4_ := f1_.symm; have f5_ := f3_.symm; clear f1_ f2_ f3_; subst f4_; subst f5_))
     refine norm_ (a' := ?_) ?_ ?_
     rotate_left
     ·simp only [putAll, Act.put, List.setIfInBounds_toArray, List.set_cons_zero, List.set_cons_succ]
      rfl
     refine one_ (i := 7) (N := some 30) #[true, true, true, true, true, true, true, true, false, false, false] rfl rfl (one_of HT_.out (by kernel_rfl)) (by decide) (fun K hK => ?_)
     refine gs Try.func119 #[.pointer (some ⟨g, 0, none⟩), .slice Ao31 y535.length co31] ?_
     with_reducible refine (spec_l9Rd_num.calls k g s0_0 t534 _ _ y535 t538 t539 w0 _ ?side1 ?side2 ?side3 ?side4 ?side5 A8.out).mono ?_
     (case side1 => exact iis HI0.out)
     (case side2 => exact bs HB.out)
     (case side3 => exact cr HO537)
     (case side4 => exact (Kd.R_reads' HO537.out).2.1)
     (case side5 => exact far_slice (IsS126.own_ne HI0.out HO537.out (by decide)))
     rintro e w32 ⟨rfl, hi, hb, hk⟩
     refine ⟨_, rfl, ?_⟩
     replace BK522 := kk BK522 hk
     replace BK523 := kk BK523 hk
     replace HO526 := ro HO526 HI0 hk
     replace HO529 := ro HO529 HI0 hk
     replace BK530 := kk BK530 hk
     replace HO537 := ro HO537 HI0 hk
     replace HK := kt HK hk
     replace HB := Aside0.mk (hb)
     replace HI0 := Aside0.mk (hi)
     (try clear hb)
     (try clear hb2)
     (try clear hk)
     (try clear hi)
     have p11 : 0 ≤ (t533 : Int) := oda
     have q11 : (t533 : Int) < ((t524.length : Int) : Int) := oda
     obtain ⟨go11, co11, eo11, gb11, gl11, cl11, HG11⟩ := Kd.R_form HO526.out (by omega)
     (first | cases eo11 | (injection eo11 with ea_ en_ ec_; (first | subst ea_ | (injection ea_ with ea_; subst ea_)); subst ec_; clear en_))
     have GB11 := Aside0.mk gb11
     have GG11 := Aside0.mk HG11
     clear gb11 gl11 HG11
     obtain ⟨ce11, hcl11, hM11, hcc11, hfr11⟩ := Kd.R_elem HO526.out z36 (t533 : Int) p11 q11
     obtain rfl := k36_openM hM11
     have hx11_0 : World.cell? _ ⟨go11, (t533 : Int).toNat * 2, none⟩ = some (.int .i64 ((rd_T36 t524 t533).f0)) := hcc11 0 _ rfl
     have hx11_1 : World.cell? _ ⟨go11, (t533 : Int).toNat * 2 + 1, none⟩ = some (.int .i64 ((rd_T36 t524 t533).f1)) := hcc11 1 _ rfl
     have hf11_0 : World.frozen? _ ⟨go11, (t533 : Int).toNat * 2, none⟩ = false := hfr11 0
     have hf11_1 : World.frozen? _ ⟨go11, (t533 : Int).toNat * 2 + 1, none⟩ = false := hfr11 1
     clear hcl11 hcc11 hfr11 hM11
     replace p11 := eq_true p11
     replace q11 := eq_true q11
     have HN0_go11 := Aside0.mk (show g ≠ go11 from by have h_ := IsS126.own_ne HI0.out HO526.out (by decide); intro e_; exact h_ (by rw [e_]; rfl))
     obtain ⟨ce33, hcl33, hM33, hcc33, hfr33⟩ := Kd.R_elem HO526.out z36 (t533 : Int) (oda) (by have h_ : (t533 : Int) < ((t524.length : Int) : Int) := oda; first | exact h_ | (have e_ := (Kd.R_reads' HO526.out).1; omega) | simpa using h_)
     obtain rfl := k36_openM hM33
     have HP33 := (Kd.R_seg HO526.out (t533 : Int) (oda) (by have h_ : (t533 : Int) < ((t524.length : Int) : Int) := oda; first | exact h_ | (have e_ := (Kd.R_reads' HO526.out).1; omega) | simpa using h_) (seg := [.int .i64 t538]) (j := 1) hcl33 hcc33 (show 2 ≤ 2 from by decide) (x' := (⟨(rd_T36 t524 t533).f0, t538⟩ : S36)) (k36_mkM _ _ _ (⟨(rd_T36 t524 t533).f0, t538⟩ : S36) ) (fun _ hk => hk)).1
     rw [← Ny540.out] at HP33
     have HQ33 := Aside0.mk HP33
     clear hcl33 hcc33 hfr33 hM33 HP33
     refine hK.out _ _ ⟨(blk_cell BK530.out 0).trans rfl, (blk_cell BK530.out 1).trans rfl⟩ (fun hHeld => ?_)
     clear hK K
     refine nrm 30 ?_
     refine pu 8 31 ?_
     refine pu 9 32 ?_
     refine last_ (i := 10) (N := none) #[true, true, true, true, true, true, true, true, true, true, true] rfl rfl (one_of HT_.out (by kernel_rfl)) (by decide) (fun K hK => ?_)
     refine skip_ (w1 := ?_) (by rfl) rfl ?_ ?_
     rotate_left
     ·go_simp
      rfl
     refine hK.out _ _ ?_
     clear hK K
     refine done_ (done_of HT_.out (by kernel_rfl)) ?_
     have n0_ : Aside0 (Kd.R k36 36 (w32.setCell ⟨go11, (t533 : Int).toNat * 2 + 1, none⟩ (.int .i64 t538)) w.heap.size (fun _ => True) (.slice (some ⟨go11, 0, none⟩) t524.length co19) y540) := ⟨by (with_reducible repeat (first | apply Kd.R_alloc | apply Kd.R_drewN | apply Kd.R_drew)); exact HQ33.out⟩
     have n1_ : Aside0 (Kd.R k56 56 (w32.setCell ⟨go11, (t533 : Int).toNat * 2 + 1, none⟩ (.int .i64 t538)) w.heap.size (fun _ => True) (.slice Ao24 t527.length co24) t527) := ⟨by (with_reducible repeat (first | apply Kd.R_alloc | apply Kd.R_drewN | apply Kd.R_drew)); exact Kd.R_mono (Kd.R_far (p := ⟨go11, (t533 : Int).toNat * 2 + 1, none⟩) (Kd.R_types HO529.out GG11.out (by decide)) (fun _ hk => hk.2) (.int .i64 t538)) (fun _ hk => trivial)⟩
     have n2_ : Aside0 (Kd.R (Kd.int .i64) 3 (w32.setCell ⟨go11, (t533 : Int).toNat * 2 + 1, none⟩ (.int .i64 t538)) w.heap.size (fun _ => True) (.slice Ao31 y535.length co31) y535) := ⟨by (with_reducible repeat (first | apply Kd.R_alloc | apply Kd.R_drewN | apply Kd.R_drew)); exact Kd.R_mono (Kd.R_far (p := ⟨go11, (t533 : Int).toNat * 2 + 1, none⟩) (Kd.R_types HO537.out GG11.out (by decide)) (fun _ hk => hk.2) (.int .i64 t538)) (fun _ hk => trivial)⟩
     have n3_ : Aside0 ((w32.setCell ⟨go11, (t533 : Int).toNat * 2 + 1, none⟩ (.int .i64 t538)).heap[gb522]? = some (.cells #[.slice A1_0 l1_0.length c1_0, .slice A1_1 l1_1.length c1_1] 34 (0, 0))) := ⟨by (with_reducible repeat (first | refine blk_drewN ?_ _ | refine blk_drew ?_ | refine blk_alloc ?_ _)); refine blk_far ?_ (by have h_ := Kd.R_ne HO526.out BK522.out (by decide); intro e_; exact h_ (by rw [e_]; rfl)) _; exact bf BK522.out⟩
     have n4_ : Aside0 ((w32.setCell ⟨go11, (t533 : Int).toNat * 2 + 1, none⟩ (.int .i64 t538)).heap[gb523]? = some (.cells #[.slice none 0 0, .slice none 0 0] 34 (0, 0))) := ⟨by (with_reducible repeat (first | refine blk_drewN ?_ _ | refine blk_drew ?_ | refine blk_alloc ?_ _)); refine blk_far ?_ (by have h_ := Kd.R_ne HO526.out BK523.out (by decide); intro e_; exact h_ (by rw [e_]; rfl)) _; exact bf BK523.out⟩
     have n5_ : Aside0 ((w32.setCell ⟨go11, (t533 : Int).toNat * 2 + 1, none⟩ (.int .i64 t538)).heap[gb530]? = some (.cells #[.slice (some ⟨go11, 0, none⟩) t524.length co19, .slice Ao24 t527.length co24] 34 (0, 0))) := ⟨by (with_reducible repeat (first | refine blk_drewN ?_ _ | refine blk_drew ?_ | refine blk_alloc ?_ _)); refine blk_far ?_ (by have h_ := Kd.R_ne HO526.out BK530.out (by decide); intro e_; exact h_ (by rw [e_]; rfl)) _; exact bf BK530.out⟩
     have n6_ : Aside0 (IsS126 w0 (w32.setCell ⟨go11, (t533 : Int).toNat * 2 + 1, none⟩ (.int .i64 t538)) g s0_0 t539) := ⟨by repeat (first | (with_reducible first | exact HI0.out | apply IsS126.alloc | apply IsS126.drewN | apply IsS126.drew | apply IsS126.set_1 | refine IsS126.far ?_ HN0_go11.out _ | refine IsS126.far ?_ NB0_522.out _ | refine IsS126.far ?_ NB0_523.out _ | refine IsS126.far ?_ NB0_530.out _) | exact HI0.out)⟩
     have n7_ : Aside0 (KeepBut w (w32.setCell ⟨go11, (t533 : Int).toNat * 2 + 1, none⟩ (.int .i64 t538)) g none) := ⟨by repeat (first | (with_reducible first | exact HK.out | apply KeepBut.set_ | apply keep_drewN | apply keep_drew | apply keep_alloc | refine keep_far ?_ GB11.out _ | refine keep_far ?_ GW522.out _ | refine keep_far ?_ GW523.out _ | refine keep_far ?_ GW530.out _) | exact HK.out)⟩
     have n8_ : Aside0 (Below w0.heap.size w0 (w32.setCell ⟨go11, (t533 : Int).toNat * 2 + 1, none⟩ (.int .i64 t538))) := ⟨by repeat (first | (with_reducible first | exact HB.out | apply below_alloc | apply pw_below_drewN | apply below_drew1 | refine below_set ?_ (Nat.le_trans HL.out GB11.out) | refine below_set ?_ (IsS126.ge HI0.out) | refine below_set ?_ GE522.out | refine below_set ?_ GE523.out | refine below_set ?_ GE530.out) | exact HB.out)⟩
     (try clear HO526)
     (try clear HO529)
     (try clear HO537)
     (try clear BK522)
     (try clear BK523)
     (try clear BK530)
     (try clear HI0)
     (try clear HK)
     (try clear HB)
     generalize (w32.setCell ⟨go11, (t533 : Int).toNat * 2 + 1, none⟩ (.int .i64 t538)) = w34 at n0_ n1_ n2_ n3_ n4_ n5_ n6_ n7_ n8_ ⊢
     have HO526 := n0_
     have HO529 := n1_
     have HO537 := n2_
     have BK522 := n3_
     have BK523 := n4_
     have BK530 := n5_
     have HI0 := n6_
     have HK := n7_
     have HB := n8_
     clear n0_ n1_ n2_ n3_ n4_ n5_ n6_ n7_ n8_
     obtain ⟨hcz35_0, hcz35_1⟩ := bc2 (w := w34) BK530.out
     have hfz35 := blk_frozen BK530.out
     have hnb36 := NB523_0.out
     have hnc36 := NB0_523.out
     obtain ⟨hcz37_0, hcz37_1⟩ := bc2 (w := w34) BK523.out
     have hfz37 := blk_frozen BK523.out
     try go_wp2
     refine bodyPost_ret (results_cell_row rfl _ _ gb523 34 #[.slice (some ⟨go11, 0, none⟩) t524.length co19, .slice Ao24 t527.length co24] (0, 0) _ rfl (bp BK523.out rfl) Try.underlying34 rfl (by kernel_rfl)) rfl ?_
     exact ⟨_, _, eqr, Kd.Q_of_R (Kd.R_mono (rt HO526.out BK523.out (by decide)) (fun _ hk => trivial)), Kd.R_mono (rt HO529.out BK523.out (by decide)) (fun _ hk => trivial), iis HI0.out, bs HB.out, ks HK.out⟩
    ·rw [if_neg c10] at H
     exact absurd H (by simp)
   ·rw [if_neg c9] at H
    exact absurd H (by simp)
  ·rw [if_neg c6] at H
   have c6b0 : decide (0 < (t524.length : Int)) = false := decide_eq_false c6
   have c6b1 : decide (0 < t524.length) = false := decide_eq_false (by omega)
   clear c6
   simp only [Option.some.injEq, Prod.mk.injEq] at H
   obtain ⟨rfl, rfl, rfl⟩ := H
   go_enter Try.func88, Try.ntmps88
   go_wp2_with (first | ((with_reducible refine gd 3 rfl ?_); refine bx 3 (cs := #[.slice A1_0 l1_0.length c1_0, .slice A1_1 l1_1.length c1_1]) (t := 34) ?_; intro gb522 hg w38 hbox hb; replace HB := hs HB hb; have BK522 := Aside0.mk (hbox); have GW522 := gwk HK hg; have GE522 := gew HW0 GW522; replace HK := kb HK hb; have NB0_522 := nlt HI0 hg; have NB522_0 := nsy NB0_522; replace HI0 := ib HI0 hb; clear hb hbox hg) | ((with_reducible refine gd 4 rfl ?_); refine bx 4 (cs := #[.slice none 0 0, .slice none 0 0]) (t := 34) ?_; intro gb523 hg w39 hbox hb; replace HB := hs HB hb; have BK523 := Aside0.mk (hbox); have GW523 := gwk HK hg; have GE523 := gew HW0 GW523; replace HK := kb HK hb; have NB522_523 := nq BK522 hg; have NB523_522 := nq' BK522 hg; replace BK522 := bb BK522 hb rfl; have NB0_523 := nlt HI0 hg; have NB523_0 := nsy NB0_523; replace HI0 := ib HI0 hb; clear hb hbox hg; have hnb40 := NB522_523.out; have hnc40 := NB523_522.out; have hnb41 := NB522_0.out; have hnc41 := NB0_522.out; obtain ⟨hcz42_0, hcz42_1⟩ := bc2 (w := w39) BK522.out; have hfz42 := blk_frozen BK522.out) | ((with_reducible refine gc 97 rfl ?_); refine gl 10 Try.func97 #[.agg #[.slice A1_0 l1_0.length c1_0, .slice A1_1 l1_1.length c1_1]] ?_; (with_reducible refine (spec_l2Copy.calls _ _ l1_0 _ _ l1_1 t524 t527 _ ?side1 ?side2 ?side3 ?side4 A3.out).mono ?_); (case side1 => exact Kd.C_foot_now HR1_0.out (ks HK.out)); (case side2 => exact HC1_0.out); (case side3 => exact Kd.C_foot_now HR1_1.out (ks HK.out)); (case side4 => exact HC1_1.out); rintro e w43 ⟨v525, v528, rfl, ho0, ho1, hb⟩; refine ⟨_, rfl, ?_⟩; have HO526 := Aside0.mk (Kd.R_lower ho0 (keep_size (w := w) (g := g) (row := none) (ks HK.out))); have HO529 := Aside0.mk (Kd.R_lower ho1 (keep_size (w := w) (g := g) (row := none) (ks HK.out))); replace HI0 := ib HI0 hb; replace BK522 := bb BK522 hb rfl; replace BK523 := bb BK523 hb rfl; replace HK := kb HK hb; replace HB := hs HB hb; (try clear ho0 ho1 hb)) | ((with_reducible refine gd 5 rfl ?_); refine bx 5 (cs := #[.slice none 0 0, .slice none 0 0]) (t := 34) ?_; intro gb530 hg w44 hbox hb; replace HO526 := rb HO526 hb; replace HO529 := rb HO529 hb; replace HB := hs HB hb; have BK530 := Aside0.mk (hbox); have GW530 := gwk HK hg; have GE530 := gew HW0 GW530; replace HK := kb HK hb; have NB522_530 := nq BK522 hg; have NB530_522 := nq' BK522 hg; replace BK522 := bb BK522 hb rfl; have NB523_530 := nq BK523 hg; have NB530_523 := nq' BK523 hg; replace BK523 := bb BK523 hb rfl; have NB0_530 := nlt HI0 hg; have NB530_0 := nsy NB0_530; replace HI0 := ib HI0 hb; clear hb hbox hg; obtain ⟨Ao45, co45, eo45⟩ := Kd.R_slice HO526.out; subst eo45; have hnb46 := NB530_522.out; have hnc46 := NB522_530.out; have hnb47 := NB530_523.out; have hnc47 := NB523_530.out; have hnb48 := NB530_0.out; have hnc48 := NB0_530.out; obtain ⟨hcz49_0, hcz49_1⟩ := bc2 (w := w44) BK530.out; have hfz49 := blk_frozen BK530.out; obtain ⟨Ao50, co50, eo50⟩ := Kd.R_slice HO529.out; subst eo50) | ((with_reducible refine gc 120 rfl ?_); refine gl 18 Try.func120 #[.pointer (some ⟨g, 0, none⟩), .int .i64 60] ?_; (with_reducible refine (spec_l9Rd_pick.calls k g s0_0 s0_1 60 t531 t532 w0 _ ?side1 ?side2 A4.out).mono ?_); (case side1 => exact iis HI0.out); (case side2 => exact bs HB.out); rintro e w51 ⟨rfl, hi, hb, hk⟩; refine ⟨_, rfl, ?_⟩; replace BK522 := kk BK522 hk; replace BK523 := kk BK523 hk; replace HO526 := rp HO526 BK530 HI0 hk; replace HO529 := rp HO529 BK530 HI0 hk; replace BK530 := kp #[.slice Ao45 t524.length co45, .slice Ao50 t527.length co50] BK530 hk; replace HK := kt HK hk; replace HB := Aside0.mk (hb); replace HI0 := Aside0.mk (hi); (try clear hi hb hk); obtain ⟨hcz52_0, hcz52_1⟩ := bc2 (w := w51) BK530.out; have hfz52 := blk_frozen BK530.out; have hnb53 := NB523_0.out; have hnc53 := NB0_523.out; obtain ⟨hcz54_0, hcz54_1⟩ := bc2 (w := w51) BK523.out; have hfz54 := blk_frozen BK523.out))
   refine bodyPost_ret (results_cell_row rfl _ _ gb523 34 #[.slice Ao45 t524.length co45, .slice Ao50 t527.length co50] (0, 0) _ rfl (bp BK523.out rfl) Try.underlying34 rfl (by kernel_rfl)) rfl ?_
   exact ⟨_, _, eqr, Kd.Q_of_R (Kd.R_mono (rt HO526.out BK523.out (by decide)) (fun _ hk => trivial)), Kd.R_mono (rt HO529.out BK523.out (by decide)) (fun _ hk => trivial), iis HI0.out, bs HB.out, ks HK.out⟩
 ·rw [if_neg c5] at H
  have c5b0 : (t531 == 0) = false := beq_eq_false_iff_ne.mpr c5
  have c5b1 : (t531 != 0) = true := bne_iff_ne.mpr c5
  by_cases c55 : t531 = 1
  ·rw [if_pos c55] at H
   have c55b0 : (t531 == 1) = true := beq_iff_eq.mpr c55
   have c55b1 : (t531 != 1) = false := bne_eq_false_iff_eq.mpr c55
   clear c55
   by_cases c56 : (t524.length : Int) > 0
   ·rw [if_pos c56] at H
    have c56b0 : decide (0 < (t524.length : Int)) = true := decide_eq_true c56
    have c56b1 : decide (0 < t524.length) = true := decide_eq_true (by omega)
    clear c56
    by_cases c57 : 0 < (t524.length : Int)
    ·rw [if_pos c57] at H
     have c57b0 : decide (0 < (t524.length : Int)) = true := decide_eq_true c57
     have c57b1 : decide (0 < t524.length) = true := decide_eq_true (by omega)
     clear c57
     by_cases c58 : t524.length < 8796093022208
     ·rw [if_pos c58] at H
      have LMc58 := Aside0.mk c58
      clear c58
      obtain ⟨y542, hy542⟩ : ∃ y_ : List (S36), y_ = (t524 ++ [(⟨(rd_T36 t524 0).f0, (rd_T36 t524 0).f1⟩ : S36)]) := ⟨_, rfl⟩
      replace H : (some (y542, t527, t532)) = some (r1, r2, r3) := by first | (rw [hy542]; exact H) | exact H
      have Ny542 := Aside0.mk hy542
      clear hy542
      simp only [Option.some.injEq, Prod.mk.injEq] at H
      obtain ⟨rfl, rfl, rfl⟩ := H
      go_enter Try.func88, Try.ntmps88
      try go_wp2_with (first | ((with_reducible refine gd 3 rfl ?_); refine bx 3 (cs := #[.slice A1_0 l1_0.length c1_0, .slice A1_1 l1_1.length c1_1]) (t := 34) ?_; intro gb522 hg w59 hbox hb; replace HB := hs HB hb; have BK522 := Aside0.mk (hbox); have GW522 := gwk HK hg; have GE522 := gew HW0 GW522; replace HK := kb HK hb; have NB0_522 := nlt HI0 hg; have NB522_0 := nsy NB0_522; replace HI0 := ib HI0 hb; clear hb hbox hg) | ((with_reducible refine gd 4 rfl ?_); refine bx 4 (cs := #[.slice none 0 0, .slice none 0 0]) (t := 34) ?_; intro gb523 hg w60 hbox hb; replace HB := hs HB hb; have BK523 := Aside0.mk (hbox); have GW523 := gwk HK hg; have GE523 := gew HW0 GW523; replace HK := kb HK hb; have NB522_523 := nq BK522 hg; have NB523_522 := nq' BK522 hg; replace BK522 := bb BK522 hb rfl; have NB0_523 := nlt HI0 hg; have NB523_0 := nsy NB0_523; replace HI0 := ib HI0 hb; clear hb hbox hg; have hnb61 := NB522_523.out; have hnc61 := NB523_522.out; have hnb62 := NB522_0.out; have hnc62 := NB0_522.out; obtain ⟨hcz63_0, hcz63_1⟩ := bc2 (w := w60) BK522.out; have hfz63 := blk_frozen BK522.out) | ((with_reducible refine gc 97 rfl ?_); refine gl 10 Try.func97 #[.agg #[.slice A1_0 l1_0.length c1_0, .slice A1_1 l1_1.length c1_1]] ?_; (with_reducible refine (spec_l2Copy.calls _ _ l1_0 _ _ l1_1 t524 t527 _ ?side1 ?side2 ?side3 ?side4 A3.out).mono ?_); (case side1 => exact Kd.C_foot_now HR1_0.out (ks HK.out)); (case side2 => exact HC1_0.out); (case side3 => exact Kd.C_foot_now HR1_1.out (ks HK.out)); (case side4 => exact HC1_1.out); rintro e w64 ⟨v525, v528, rfl, ho0, ho1, hb⟩; refine ⟨_, rfl, ?_⟩; have HO526 := Aside0.mk (Kd.R_lower ho0 (keep_size (w := w) (g := g) (row := none) (ks HK.out))); have HO529 := Aside0.mk (Kd.R_lower ho1 (keep_size (w := w) (g := g) (row := none) (ks HK.out))); replace HI0 := ib HI0 hb; replace BK522 := bb BK522 hb rfl; replace BK523 := bb BK523 hb rfl; replace HK := kb HK hb; replace HB := hs HB hb; (try clear ho0 ho1 hb)) | ((with_reducible refine gd 5 rfl ?_); refine bx 5 (cs := #[.slice none 0 0, .slice none 0 0]) (t := 34) ?_; intro gb530 hg w65 hbox hb; replace HO526 := rb HO526 hb; replace HO529 := rb HO529 hb; replace HB := hs HB hb; have BK530 := Aside0.mk (hbox); have GW530 := gwk HK hg; have GE530 := gew HW0 GW530; replace HK := kb HK hb; have NB522_530 := nq BK522 hg; have NB530_522 := nq' BK522 hg; replace BK522 := bb BK522 hb rfl; have NB523_530 := nq BK523 hg; have NB530_523 := nq' BK523 hg; replace BK523 := bb BK523 hb rfl; have NB0_530 := nlt HI0 hg; have NB530_0 := nsy NB0_530; replace HI0 := ib HI0 hb; clear hb hbox hg; obtain ⟨Ao66, co66, eo66⟩ := Kd.R_slice HO526.out; subst eo66; have hnb67 := NB530_522.out; have hnc67 := NB522_530.out; have hnb68 := NB530_523.out; have hnc68 := NB523_530.out; have hnb69 := NB530_0.out; have hnc69 := NB0_530.out; obtain ⟨hcz70_0, hcz70_1⟩ := bc2 (w := w65) BK530.out; have hfz70 := blk_frozen BK530.out; obtain ⟨Ao71, co71, eo71⟩ := Kd.R_slice HO529.out; subst eo71) | ((with_reducible refine gc 120 rfl ?_); refine gl 18 Try.func120 #[.pointer (some ⟨g, 0, none⟩), .int .i64 60] ?_; (with_reducible refine (spec_l9Rd_pick.calls k g s0_0 s0_1 60 t531 t532 w0 _ ?side1 ?side2 A4.out).mono ?_); (case side1 => exact iis HI0.out); (case side2 => exact bs HB.out); rintro e w72 ⟨rfl, hi, hb, hk⟩; refine ⟨_, rfl, ?_⟩; replace BK522 := kk BK522 hk; replace BK523 := kk BK523 hk; replace HO526 := rp HO526 BK530 HI0 hk; replace HO529 := rp HO529 BK530 HI0 hk; replace BK530 := kp #[.slice Ao66 t524.length co66, .slice Ao71 t527.length co71] BK530 hk; replace HK := kt HK hk; replace HB := Aside0.mk (hb); replace HI0 := Aside0.mk (hi); (try clear hi hb hk)))
      replace HO526 := rd_ HO526
      replace HO529 := rd_ HO529
      replace BK522 := bd BK522
      replace BK523 := bd BK523
      replace BK530 := bd BK530
      replace HI0 := Aside0.mk (IsS126.drew HI0.out)
      replace HK := Aside0.mk (keep_drew HK.out)
      replace HB := hd HB
      have p541 : 0 ≤ (0 : Int) := (by omega)
      have q541 : 0 < (t524.length : Int) := oda
      obtain ⟨ad541, e541, hx541_0, hx541_1⟩ := at_T36 (Kd.R_reads' HO526.out).2.2 0 p541 q541
      cases e541
      have qi541 : (0 < t524.length) = True := eq_true (by omega)
      (try rw [show ((0 : Int)).toNat = 0 from rfl] at hx541_0)
      (try rw [show 0 * 2 = 0 from rfl] at hx541_0)
      (try rw [Addr.add_zero'] at hx541_0)
      (try rw [show ((0 : Int)).toNat = 0 from rfl] at hx541_1)
      (try rw [show 0 * 2 = 0 from rfl] at hx541_1)
      (try rw [Addr.add_zero'] at hx541_1)
      replace p541 := eq_true p541
      replace q541 := eq_true q541
      refine start_ (n := 10) (S := fun w' => w'.cell? ⟨gb530, 0, none⟩ = some (.slice (some ad541) t524.length co66) ∧ w'.cell? ⟨gb530, 1, none⟩ = some (.slice Ao71 t527.length co71) ∧ w'.cell? ad541 = some (.int .i64 ((rd_T36 t524 0).f0)) ∧ w'.cell? ⟨ad541.block, ad541.off + 1, none⟩ = some (.int .i64 ((rd_T36 t524 0).f1))) (ds := [7, 9]) #[false, false, false, false, false, false, false, false, false, false] (by kernel_rfl) rfl rfl ⟨(blk_cell BK530.out 0).trans rfl, (blk_cell BK530.out 1).trans rfl, hx541_0, hx541_1⟩ (fun hHeld => ?_); refine with_tabW spec_l2Bent.tab10 spec_l2Bent.bits10 (fun HT_ HW_ => ?_)
      generalize w72.drew = w73 at HO526 HO529 BK522 BK523 BK530 HI0 HK HB hx541_0 hx541_1 hHeld ⊢
      refine pu 0 37 ?_
      refine pu 2 39 ?_
      refine tk 1 38 ?_
      refine tk 3 40 ?_
      refine pu 4 41 ?_
      refine tk 5 42 ?_
      refine one_ (i := 6) (N := some 43) #[true, true, true, true, true, true, true, false, false, false] rfl rfl (one_of HT_.out (by kernel_rfl)) (by decide) (fun K hK => ?_)
      refine value_ (w1 := ?_) (v := ?_) (by rfl) rfl ?_ ?_
      rotate_left 2
      ·go_simp
       constructor
       ·rfl
       ·rfl
      refine hK.out _ _ ⟨(blk_cell (blk_alloc BK530.out _) 0).trans rfl, (blk_cell (blk_alloc BK530.out _) 1).trans rfl, (World.cell?_alloc_lt _ _ _ (World.block_lt_of_cell? _ _ (hHeld.2.2.1))).trans (hHeld.2.2.1), (World.cell?_alloc_lt _ _ _ (World.block_lt_of_cell? _ _ (hHeld.2.2.2))).trans (hHeld.2.2.2)⟩ (fun hHeld => ?_)
      clear hK K
      refine nrm 43 ?_
      refine last_ (i := 7) (N := some 44) #[true, true, true, true, true, true, true, true, false, false] rfl rfl (one_of HT_.out (by kernel_rfl)) (by decide) (fun K hK => ?_)
      refine Kd.R_append_step k36 w.heap.size (by rfl) (.tmp 38) (.tmp 43) 29 36 (.agg #[(.int .i64 0), (.int .i64 0)]) 16 rfl Try.underlying29 info36 rfl (by decide) (by omega) (.slice (some ad541) t524.length co66) t524 (⟨(rd_T36 t524 0).f0, (rd_T36 t524 0).f1⟩ : S36) [.int .i64 ((rd_T36 t524 0).f0), .int .i64 ((rd_T36 t524 0).f1)] (fun _ => True) (fun _ => False) rfl rfl ?aP (fun _ hk => hk.elim) ?aF ?aO (Below.refl _ _) ?aS ?aL ?_
      (case aP => exact k36_mkM _ _ _ (⟨(rd_T36 t524 0).f0, (rd_T36 t524 0).f1⟩ : S36))
      (case aF => exact (fun _ _ => trivial))
      (case aO => exact (rl HO526.out))
      (case aS => exact (keep_size (w := w) (g := g) (row := none) (ks HK.out)))
      (case aL => have := LMc58.out; omega)
      intro v543 w74 ho hb hg hat
      rw [← Ny542.out] at ho
      replace HI0 := Aside0.mk (IsS126.grown (iis HI0.out) hg (IsS126.own_ne HI0.out HO526.out (by decide)))
      replace BK522 := gr BK522 HO526 hg
      replace BK523 := gr BK523 HO526 hg
      replace HO529 := Aside0.mk (Kd.R_over' (rl HO529.out) (Kd.R_typed (rl HO526.out)) (by decide) hg)
      replace BK530 := gr BK530 HO526 hg
      replace HB := Aside0.mk (below_weaken (bs HB.out) HL.out hb)
      replace HK := Aside0.mk (KeepBut.trans (ks HK.out) (KeepBut.of_grown hg g) (Kd.R_base2 HO526.out))
      have HO544 := Aside0.mk (ho)
      clear HO526
      clear ho hb hg hat
      obtain ⟨Ao75, co75, eo75⟩ := Kd.R_slice HO544.out
      (first | subst eo75 | (injection eo75 with f1_ f2_ f3_; have f4_ := f1_.symm; have f5_ := f3_.symm; clear f1_ f2_ f3_; subst f4_; subst f5_))
      refine hK.out _ _ ?_
      clear hK K
      refine nrm 44 ?_
      refine pu 8 45 ?_
      refine last_ (i := 9) (N := none) #[true, true, true, true, true, true, true, true, true, true] rfl rfl (one_of HT_.out (by kernel_rfl)) (by decide) (fun K hK => ?_)
      have hs76 : w74.cell? ⟨gb530, 0, none⟩ = some (.slice (some ad541) t524.length co66) := (blk_cell BK530.out 0).trans rfl
      have hfs76 := blk_frozen BK530.out 0
      have hns76_0 := NB522_530.out
      have hns76_1 := NB523_530.out
      have hms76_0 := NB530_522.out
      have hms76_1 := NB530_523.out
      refine skip_ (w1 := ?_) (by rfl) rfl ?_ ?_
      rotate_left
      ·go_simp
       rfl
      refine hK.out _ _ ?_
      clear hK K
      refine done_ (done_of HT_.out (by kernel_rfl)) ?_
      obtain ⟨hcz77_0, hcz77_1⟩ := bc2 (w := w74) BK530.out
      have hfz77 := blk_frozen BK530.out
      have hnb78 := NB523_0.out
      have hnc78 := NB0_523.out
      obtain ⟨hcz79_0, hcz79_1⟩ := bc2 (w := w74) BK523.out
      have hfz79 := blk_frozen BK523.out
      try go_wp2
      refine bodyPost_ret (results_cell_row rfl _ _ gb523 34 #[.slice Ao75 y542.length co75, .slice Ao71 t527.length co71] (0, 0) _ rfl (bp BK523.out rfl) Try.underlying34 rfl (by kernel_rfl)) rfl ?_
      exact ⟨_, _, eqr, Kd.Q_of_R (by (with_reducible repeat (first | apply Kd.R_alloc | apply Kd.R_drewN | apply Kd.R_drew)); exact Kd.R_mono (Kd.R_far (p := ⟨gb523, 1, none⟩) (Kd.R_far (p := ⟨gb523, 0, none⟩) (Kd.R_far (p := ⟨gb530, 0, none⟩) (Kd.R_types (Kd.R_types HO544.out BK530.out (by decide)) BK523.out (by decide)) (fun _ hk => hk.1.2) (.slice Ao75 y542.length co75)) (fun _ hk => hk.2) (.slice Ao75 y542.length co75)) (fun _ hk => hk.2) (.slice Ao71 t527.length co71)) (fun _ hk => trivial)), by (with_reducible repeat (first | apply Kd.R_alloc | apply Kd.R_drewN | apply Kd.R_drew)); exact Kd.R_mono (Kd.R_far (p := ⟨gb523, 1, none⟩) (Kd.R_far (p := ⟨gb523, 0, none⟩) (Kd.R_far (p := ⟨gb530, 0, none⟩) (Kd.R_types (Kd.R_types HO529.out BK530.out (by decide)) BK523.out (by decide)) (fun _ hk => hk.1.2) (.slice Ao75 y542.length co75)) (fun _ hk => hk.2) (.slice Ao75 y542.length co75)) (fun _ hk => hk.2) (.slice Ao71 t527.length co71)) (fun _ hk => trivial), iis HI0.out, bs HB.out, ks HK.out⟩
     ·rw [if_neg c58] at H
      exact absurd H (by simp)
    ·rw [if_neg c57] at H
     exact absurd H (by simp)
   ·rw [if_neg c56] at H
    have c56b0 : decide (0 < (t524.length : Int)) = false := decide_eq_false c56
    have c56b1 : decide (0 < t524.length) = false := decide_eq_false (by omega)
    clear c56
    simp only [Option.some.injEq, Prod.mk.injEq] at H
    obtain ⟨rfl, rfl, rfl⟩ := H
    go_enter Try.func88, Try.ntmps88
    go_wp2_with (first | ((with_reducible refine gd 3 rfl ?_); refine bx 3 (cs := #[.slice A1_0 l1_0.length c1_0, .slice A1_1 l1_1.length c1_1]) (t := 34) ?_; intro gb522 hg w80 hbox hb; replace HB := hs HB hb; have BK522 := Aside0.mk (hbox); have GW522 := gwk HK hg; have GE522 := gew HW0 GW522; replace HK := kb HK hb; have NB0_522 := nlt HI0 hg; have NB522_0 := nsy NB0_522; replace HI0 := ib HI0 hb; clear hb hbox hg) | ((with_reducible refine gd 4 rfl ?_); refine bx 4 (cs := #[.slice none 0 0, .slice none 0 0]) (t := 34) ?_; intro gb523 hg w81 hbox hb; replace HB := hs HB hb; have BK523 := Aside0.mk (hbox); have GW523 := gwk HK hg; have GE523 := gew HW0 GW523; replace HK := kb HK hb; have NB522_523 := nq BK522 hg; have NB523_522 := nq' BK522 hg; replace BK522 := bb BK522 hb rfl; have NB0_523 := nlt HI0 hg; have NB523_0 := nsy NB0_523; replace HI0 := ib HI0 hb; clear hb hbox hg; have hnb82 := NB522_523.out; have hnc82 := NB523_522.out; have hnb83 := NB522_0.out; have hnc83 := NB0_522.out; obtain ⟨hcz84_0, hcz84_1⟩ := bc2 (w := w81) BK522.out; have hfz84 := blk_frozen BK522.out) | ((with_reducible refine gc 97 rfl ?_); refine gl 10 Try.func97 #[.agg #[.slice A1_0 l1_0.length c1_0, .slice A1_1 l1_1.length c1_1]] ?_; (with_reducible refine (spec_l2Copy.calls _ _ l1_0 _ _ l1_1 t524 t527 _ ?side1 ?side2 ?side3 ?side4 A3.out).mono ?_); (case side1 => exact Kd.C_foot_now HR1_0.out (ks HK.out)); (case side2 => exact HC1_0.out); (case side3 => exact Kd.C_foot_now HR1_1.out (ks HK.out)); (case side4 => exact HC1_1.out); rintro e w85 ⟨v525, v528, rfl, ho0, ho1, hb⟩; refine ⟨_, rfl, ?_⟩; have HO526 := Aside0.mk (Kd.R_lower ho0 (keep_size (w := w) (g := g) (row := none) (ks HK.out))); have HO529 := Aside0.mk (Kd.R_lower ho1 (keep_size (w := w) (g := g) (row := none) (ks HK.out))); replace HI0 := ib HI0 hb; replace BK522 := bb BK522 hb rfl; replace BK523 := bb BK523 hb rfl; replace HK := kb HK hb; replace HB := hs HB hb; (try clear ho0 ho1 hb)) | ((with_reducible refine gd 5 rfl ?_); refine bx 5 (cs := #[.slice none 0 0, .slice none 0 0]) (t := 34) ?_; intro gb530 hg w86 hbox hb; replace HO526 := rb HO526 hb; replace HO529 := rb HO529 hb; replace HB := hs HB hb; have BK530 := Aside0.mk (hbox); have GW530 := gwk HK hg; have GE530 := gew HW0 GW530; replace HK := kb HK hb; have NB522_530 := nq BK522 hg; have NB530_522 := nq' BK522 hg; replace BK522 := bb BK522 hb rfl; have NB523_530 := nq BK523 hg; have NB530_523 := nq' BK523 hg; replace BK523 := bb BK523 hb rfl; have NB0_530 := nlt HI0 hg; have NB530_0 := nsy NB0_530; replace HI0 := ib HI0 hb; clear hb hbox hg; obtain ⟨Ao87, co87, eo87⟩ := Kd.R_slice HO526.out; subst eo87; have hnb88 := NB530_522.out; have hnc88 := NB522_530.out; have hnb89 := NB530_523.out; have hnc89 := NB523_530.out; have hnb90 := NB530_0.out; have hnc90 := NB0_530.out; obtain ⟨hcz91_0, hcz91_1⟩ := bc2 (w := w86) BK530.out; have hfz91 := blk_frozen BK530.out; obtain ⟨Ao92, co92, eo92⟩ := Kd.R_slice HO529.out; subst eo92) | ((with_reducible refine gc 120 rfl ?_); refine gl 18 Try.func120 #[.pointer (some ⟨g, 0, none⟩), .int .i64 60] ?_; (with_reducible refine (spec_l9Rd_pick.calls k g s0_0 s0_1 60 t531 t532 w0 _ ?side1 ?side2 A4.out).mono ?_); (case side1 => exact iis HI0.out); (case side2 => exact bs HB.out); rintro e w93 ⟨rfl, hi, hb, hk⟩; refine ⟨_, rfl, ?_⟩; replace BK522 := kk BK522 hk; replace BK523 := kk BK523 hk; replace HO526 := rp HO526 BK530 HI0 hk; replace HO529 := rp HO529 BK530 HI0 hk; replace BK530 := kp #[.slice Ao87 t524.length co87, .slice Ao92 t527.length co92] BK530 hk; replace HK := kt HK hk; replace HB := Aside0.mk (hb); replace HI0 := Aside0.mk (hi); (try clear hi hb hk); obtain ⟨hcz94_0, hcz94_1⟩ := bc2 (w := w93) BK530.out; have hfz94 := blk_frozen BK530.out; have hnb95 := NB523_0.out; have hnc95 := NB0_523.out; obtain ⟨hcz96_0, hcz96_1⟩ := bc2 (w := w93) BK523.out; have hfz96 := blk_frozen BK523.out))
    refine bodyPost_ret (results_cell_row rfl _ _ gb523 34 #[.slice Ao87 t524.length co87, .slice Ao92 t527.length co92] (0, 0) _ rfl (bp BK523.out rfl) Try.underlying34 rfl (by kernel_rfl)) rfl ?_
    exact ⟨_, _, eqr, Kd.Q_of_R (Kd.R_mono (rt HO526.out BK523.out (by decide)) (fun _ hk => trivial)), Kd.R_mono (rt HO529.out BK523.out (by decide)) (fun _ hk => trivial), iis HI0.out, bs HB.out, ks HK.out⟩
  ·rw [if_neg c55] at H
   have c55b0 : (t531 == 1) = false := beq_eq_false_iff_ne.mpr c55
   have c55b1 : (t531 != 1) = true := bne_iff_ne.mpr c55
   by_cases c97 : t531 = 2
   ·rw [if_pos c97] at H
    have c97b0 : (t531 == 2) = true := beq_iff_eq.mpr c97
    have c97b1 : (t531 != 2) = false := bne_eq_false_iff_eq.mpr c97
    clear c97
    by_cases c98 : (t524.length : Int) > 0
    ·rw [if_pos c98] at H
     have c98b0 : decide (0 < (t524.length : Int)) = true := decide_eq_true c98
     have c98b1 : decide (0 < t524.length) = true := decide_eq_true (by omega)
     clear c98
     by_cases c99 : 1 ≤ (t524.length : Int)
     ·rw [if_pos c99] at H
      have c99b0 := eq_true c99
      have c99b1 : decide (1 ≤ (t524.length : Int)) = true := decide_eq_true c99
      clear c99
      obtain ⟨y545, hy545⟩ : ∃ y_ : List (S36), y_ = (t524.drop (1 : Int).toNat) := ⟨_, rfl⟩
      replace H : (some (y545, t527, t532)) = some (r1, r2, r3) := by first | (rw [hy545]; exact H) | exact H
      have Ny545 := Aside0.mk hy545
      clear hy545
      simp only [Option.some.injEq, Prod.mk.injEq] at H
      obtain ⟨rfl, rfl, rfl⟩ := H
      go_enter Try.func88, Try.ntmps88
      go_wp2_with (first | ((with_reducible refine gd 3 rfl ?_); refine bx 3 (cs := #[.slice A1_0 l1_0.length c1_0, .slice A1_1 l1_1.length c1_1]) (t := 34) ?_; intro gb522 hg w100 hbox hb; replace HB := hs HB hb; have BK522 := Aside0.mk (hbox); have GW522 := gwk HK hg; have GE522 := gew HW0 GW522; replace HK := kb HK hb; have NB0_522 := nlt HI0 hg; have NB522_0 := nsy NB0_522; replace HI0 := ib HI0 hb; clear hb hbox hg) | ((with_reducible refine gd 4 rfl ?_); refine bx 4 (cs := #[.slice none 0 0, .slice none 0 0]) (t := 34) ?_; intro gb523 hg w101 hbox hb; replace HB := hs HB hb; have BK523 := Aside0.mk (hbox); have GW523 := gwk HK hg; have GE523 := gew HW0 GW523; replace HK := kb HK hb; have NB522_523 := nq BK522 hg; have NB523_522 := nq' BK522 hg; replace BK522 := bb BK522 hb rfl; have NB0_523 := nlt HI0 hg; have NB523_0 := nsy NB0_523; replace HI0 := ib HI0 hb; clear hb hbox hg; have hnb102 := NB522_523.out; have hnc102 := NB523_522.out; have hnb103 := NB522_0.out; have hnc103 := NB0_522.out; obtain ⟨hcz104_0, hcz104_1⟩ := bc2 (w := w101) BK522.out; have hfz104 := blk_frozen BK522.out) | ((with_reducible refine gc 97 rfl ?_); refine gl 10 Try.func97 #[.agg #[.slice A1_0 l1_0.length c1_0, .slice A1_1 l1_1.length c1_1]] ?_; (with_reducible refine (spec_l2Copy.calls _ _ l1_0 _ _ l1_1 t524 t527 _ ?side1 ?side2 ?side3 ?side4 A3.out).mono ?_); (case side1 => exact Kd.C_foot_now HR1_0.out (ks HK.out)); (case side2 => exact HC1_0.out); (case side3 => exact Kd.C_foot_now HR1_1.out (ks HK.out)); (case side4 => exact HC1_1.out); rintro e w105 ⟨v525, v528, rfl, ho0, ho1, hb⟩; refine ⟨_, rfl, ?_⟩; have HO526 := Aside0.mk (Kd.R_lower ho0 (keep_size (w := w) (g := g) (row := none) (ks HK.out))); have HO529 := Aside0.mk (Kd.R_lower ho1 (keep_size (w := w) (g := g) (row := none) (ks HK.out))); replace HI0 := ib HI0 hb; replace BK522 := bb BK522 hb rfl; replace BK523 := bb BK523 hb rfl; replace HK := kb HK hb; replace HB := hs HB hb; (try clear ho0 ho1 hb)) | ((with_reducible refine gd 5 rfl ?_); refine bx 5 (cs := #[.slice none 0 0, .slice none 0 0]) (t := 34) ?_; intro gb530 hg w106 hbox hb; replace HO526 := rb HO526 hb; replace HO529 := rb HO529 hb; replace HB := hs HB hb; have BK530 := Aside0.mk (hbox); have GW530 := gwk HK hg; have GE530 := gew HW0 GW530; replace HK := kb HK hb; have NB522_530 := nq BK522 hg; have NB530_522 := nq' BK522 hg; replace BK522 := bb BK522 hb rfl; have NB523_530 := nq BK523 hg; have NB530_523 := nq' BK523 hg; replace BK523 := bb BK523 hb rfl; have NB0_530 := nlt HI0 hg; have NB530_0 := nsy NB0_530; replace HI0 := ib HI0 hb; clear hb hbox hg; obtain ⟨Ao107, co107, eo107⟩ := Kd.R_slice HO526.out; subst eo107; have hnb108 := NB530_522.out; have hnc108 := NB522_530.out; have hnb109 := NB530_523.out; have hnc109 := NB523_530.out; have hnb110 := NB530_0.out; have hnc110 := NB0_530.out; obtain ⟨hcz111_0, hcz111_1⟩ := bc2 (w := w106) BK530.out; have hfz111 := blk_frozen BK530.out; obtain ⟨Ao112, co112, eo112⟩ := Kd.R_slice HO529.out; subst eo112) | ((with_reducible refine gc 120 rfl ?_); refine gl 18 Try.func120 #[.pointer (some ⟨g, 0, none⟩), .int .i64 60] ?_; (with_reducible refine (spec_l9Rd_pick.calls k g s0_0 s0_1 60 t531 t532 w0 _ ?side1 ?side2 A4.out).mono ?_); (case side1 => exact iis HI0.out); (case side2 => exact bs HB.out); rintro e w113 ⟨rfl, hi, hb, hk⟩; refine ⟨_, rfl, ?_⟩; replace BK522 := kk BK522 hk; replace BK523 := kk BK523 hk; replace HO526 := rp HO526 BK530 HI0 hk; replace HO529 := rp HO529 BK530 HI0 hk; replace BK530 := kp #[.slice Ao107 t524.length co107, .slice Ao112 t527.length co112] BK530 hk; replace HK := kt HK hk; replace HB := Aside0.mk (hb); replace HI0 := Aside0.mk (hi); (try clear hi hb hk); obtain ⟨hcz114_0, hcz114_1⟩ := bc2 (w := w113) BK530.out; have hfz114 := blk_frozen BK530.out; have q115 : (1 : Int) ≤ ((t524.length : Int) : Int) := oda; obtain ⟨i0115, hi0115, _, hsz115, _⟩ := info_parts info36; have hcut115 := cut_from (P := Try.prog) 29 36 .i64 Try.underlying29 hi0115 2 hsz115 Ao107 t524.length co107 1 (by omega) q115; have hr115 := Kd.Q_drop (k := (1 : Int).toNat) (Kd.Q_of_R HO526.out) (by omega); obtain ⟨A115, hA115⟩ : ∃ A1, A1 = (if co107 = (1 : Int).toNat then Ao107 else (Ao107 : Option Addr).map (·.add ((1 : Int).toNat * 2))) := ⟨_, rfl⟩; obtain ⟨c115, hc115⟩ : ∃ c1, c1 = co107 - (1 : Int).toNat := ⟨_, rfl⟩; have hy115 : y545.length = t524.length - (1 : Int).toNat := (by rw [Ny545.out, List.length_drop]); rw [← Ny545.out] at hr115; rw [← hy115, ← hA115, ← hc115] at hcut115; replace hr115 : Kd.Q k36 36 w113 w.heap.size (fun _ => True) (.slice A115 y545.length c115) y545 := (by rw [hA115, hc115, hy115]; exact hr115); have HE115 : Aside0 ((Value.slice A115 y545.length c115).ownBlock = (.slice Ao107 t524.length co107 : Value).ownBlock) := ⟨by rw [hA115]; split <;> (cases (Ao107 : Option Addr) <;> rfl)⟩; clear hy115 hi0115 hsz115 HO526 hA115 hc115; have HO547 := Aside0.mk hr115; clear hr115; replace q115 := eq_true q115; have hnb116 := NB523_0.out; have hnc116 := NB0_523.out; obtain ⟨hcz117_0, hcz117_1⟩ := bc2 (w := w113) BK523.out; have hfz117 := blk_frozen BK523.out))
      refine bodyPost_ret (results_cell_row rfl _ _ gb523 34 #[.slice A115 y545.length c115, .slice Ao112 t527.length co112] (0, 0) _ rfl (bp BK523.out rfl) Try.underlying34 rfl (by kernel_rfl)) rfl ?_
      exact ⟨_, _, eqr, by (with_reducible repeat (first | apply Kd.Q_alloc | apply Kd.Q_drewN | apply Kd.Q_drew)); exact Kd.Q_mono (Kd.Q_far (p := ⟨gb523, 1, none⟩) (Kd.Q_far (p := ⟨gb523, 0, none⟩) (Kd.Q_far (p := ⟨gb530, 0, none⟩) (Kd.Q_types (Kd.Q_types HO547.out BK530.out (by decide)) BK523.out (by decide)) (fun _ hk => hk.1.2) (.slice A115 y545.length c115)) (fun _ hk => hk.2) (.slice A115 y545.length c115)) (fun _ hk => hk.2) (.slice Ao112 t527.length co112)) (fun _ hk => trivial), by (with_reducible repeat (first | apply Kd.R_alloc | apply Kd.R_drewN | apply Kd.R_drew)); exact Kd.R_mono (Kd.R_far (p := ⟨gb523, 1, none⟩) (Kd.R_far (p := ⟨gb523, 0, none⟩) (Kd.R_far (p := ⟨gb530, 0, none⟩) (Kd.R_types (Kd.R_types HO529.out BK530.out (by decide)) BK523.out (by decide)) (fun _ hk => hk.1.2) (.slice A115 y545.length c115)) (fun _ hk => hk.2) (.slice A115 y545.length c115)) (fun _ hk => hk.2) (.slice Ao112 t527.length co112)) (fun _ hk => trivial), iis HI0.out, bs HB.out, ks HK.out⟩
     ·rw [if_neg c99] at H
      exact absurd H (by simp)
    ·rw [if_neg c98] at H
     have c98b0 : decide (0 < (t524.length : Int)) = false := decide_eq_false c98
     have c98b1 : decide (0 < t524.length) = false := decide_eq_false (by omega)
     clear c98
     simp only [Option.some.injEq, Prod.mk.injEq] at H
     obtain ⟨rfl, rfl, rfl⟩ := H
     go_enter Try.func88, Try.ntmps88
     go_wp2_with (first | ((with_reducible refine gd 3 rfl ?_); refine bx 3 (cs := #[.slice A1_0 l1_0.length c1_0, .slice A1_1 l1_1.length c1_1]) (t := 34) ?_; intro gb522 hg w118 hbox hb; replace HB := hs HB hb; have BK522 := Aside0.mk (hbox); have GW522 := gwk HK hg; have GE522 := gew HW0 GW522; replace HK := kb HK hb; have NB0_522 := nlt HI0 hg; have NB522_0 := nsy NB0_522; replace HI0 := ib HI0 hb; clear hb hbox hg) | ((with_reducible refine gd 4 rfl ?_); refine bx 4 (cs := #[.slice none 0 0, .slice none 0 0]) (t := 34) ?_; intro gb523 hg w119 hbox hb; replace HB := hs HB hb; have BK523 := Aside0.mk (hbox); have GW523 := gwk HK hg; have GE523 := gew HW0 GW523; replace HK := kb HK hb; have NB522_523 := nq BK522 hg; have NB523_522 := nq' BK522 hg; replace BK522 := bb BK522 hb rfl; have NB0_523 := nlt HI0 hg; have NB523_0 := nsy NB0_523; replace HI0 := ib HI0 hb; clear hb hbox hg; have hnb120 := NB522_523.out; have hnc120 := NB523_522.out; have hnb121 := NB522_0.out; have hnc121 := NB0_522.out; obtain ⟨hcz122_0, hcz122_1⟩ := bc2 (w := w119) BK522.out; have hfz122 := blk_frozen BK522.out) | ((with_reducible refine gc 97 rfl ?_); refine gl 10 Try.func97 #[.agg #[.slice A1_0 l1_0.length c1_0, .slice A1_1 l1_1.length c1_1]] ?_; (with_reducible refine (spec_l2Copy.calls _ _ l1_0 _ _ l1_1 t524 t527 _ ?side1 ?side2 ?side3 ?side4 A3.out).mono ?_); (case side1 => exact Kd.C_foot_now HR1_0.out (ks HK.out)); (case side2 => exact HC1_0.out); (case side3 => exact Kd.C_foot_now HR1_1.out (ks HK.out)); (case side4 => exact HC1_1.out); rintro e w123 ⟨v525, v528, rfl, ho0, ho1, hb⟩; refine ⟨_, rfl, ?_⟩; have HO526 := Aside0.mk (Kd.R_lower ho0 (keep_size (w := w) (g := g) (row := none) (ks HK.out))); have HO529 := Aside0.mk (Kd.R_lower ho1 (keep_size (w := w) (g := g) (row := none) (ks HK.out))); replace HI0 := ib HI0 hb; replace BK522 := bb BK522 hb rfl; replace BK523 := bb BK523 hb rfl; replace HK := kb HK hb; replace HB := hs HB hb; (try clear ho0 ho1 hb)) | ((with_reducible refine gd 5 rfl ?_); refine bx 5 (cs := #[.slice none 0 0, .slice none 0 0]) (t := 34) ?_; intro gb530 hg w124 hbox hb; replace HO526 := rb HO526 hb; replace HO529 := rb HO529 hb; replace HB := hs HB hb; have BK530 := Aside0.mk (hbox); have GW530 := gwk HK hg; have GE530 := gew HW0 GW530; replace HK := kb HK hb; have NB522_530 := nq BK522 hg; have NB530_522 := nq' BK522 hg; replace BK522 := bb BK522 hb rfl; have NB523_530 := nq BK523 hg; have NB530_523 := nq' BK523 hg; replace BK523 := bb BK523 hb rfl; have NB0_530 := nlt HI0 hg; have NB530_0 := nsy NB0_530; replace HI0 := ib HI0 hb; clear hb hbox hg; obtain ⟨Ao125, co125, eo125⟩ := Kd.R_slice HO526.out; subst eo125; have hnb126 := NB530_522.out; have hnc126 := NB522_530.out; have hnb127 := NB530_523.out; have hnc127 := NB523_530.out; have hnb128 := NB530_0.out; have hnc128 := NB0_530.out; obtain ⟨hcz129_0, hcz129_1⟩ := bc2 (w := w124) BK530.out; have hfz129 := blk_frozen BK530.out; obtain ⟨Ao130, co130, eo130⟩ := Kd.R_slice HO529.out; subst eo130) | ((with_reducible refine gc 120 rfl ?_); refine gl 18 Try.func120 #[.pointer (some ⟨g, 0, none⟩), .int .i64 60] ?_; (with_reducible refine (spec_l9Rd_pick.calls k g s0_0 s0_1 60 t531 t532 w0 _ ?side1 ?side2 A4.out).mono ?_); (case side1 => exact iis HI0.out); (case side2 => exact bs HB.out); rintro e w131 ⟨rfl, hi, hb, hk⟩; refine ⟨_, rfl, ?_⟩; replace BK522 := kk BK522 hk; replace BK523 := kk BK523 hk; replace HO526 := rp HO526 BK530 HI0 hk; replace HO529 := rp HO529 BK530 HI0 hk; replace BK530 := kp #[.slice Ao125 t524.length co125, .slice Ao130 t527.length co130] BK530 hk; replace HK := kt HK hk; replace HB := Aside0.mk (hb); replace HI0 := Aside0.mk (hi); (try clear hi hb hk); obtain ⟨hcz132_0, hcz132_1⟩ := bc2 (w := w131) BK530.out; have hfz132 := blk_frozen BK530.out; have hnb133 := NB523_0.out; have hnc133 := NB0_523.out; obtain ⟨hcz134_0, hcz134_1⟩ := bc2 (w := w131) BK523.out; have hfz134 := blk_frozen BK523.out))
     refine bodyPost_ret (results_cell_row rfl _ _ gb523 34 #[.slice Ao125 t524.length co125, .slice Ao130 t527.length co130] (0, 0) _ rfl (bp BK523.out rfl) Try.underlying34 rfl (by kernel_rfl)) rfl ?_
     exact ⟨_, _, eqr, Kd.Q_of_R (Kd.R_mono (rt HO526.out BK523.out (by decide)) (fun _ hk => trivial)), Kd.R_mono (rt HO529.out BK523.out (by decide)) (fun _ hk => trivial), iis HI0.out, bs HB.out, ks HK.out⟩
   ·rw [if_neg c97] at H
    have c97b0 : (t531 == 2) = false := beq_eq_false_iff_ne.mpr c97
    have c97b1 : (t531 != 2) = true := bne_iff_ne.mpr c97
    by_cases c135 : t531 = 3
    ·rw [if_pos c135] at H
     have c135b0 : (t531 == 3) = true := beq_iff_eq.mpr c135
     have c135b1 : (t531 != 3) = false := bne_eq_false_iff_eq.mpr c135
     clear c135
     by_cases c136 : (t527.length : Int) > 0
     ·rw [if_pos c136] at H
      have c136b0 : decide (0 < (t527.length : Int)) = true := decide_eq_true c136
      have c136b1 : decide (0 < t527.length) = true := decide_eq_true (by omega)
      clear c136
      replace H := Option.bind_eq_some_iff.mp H
      obtain ⟨⟨t548, t549⟩, A1370, H⟩ := H
      try dsimp -simprocs only at H
      have A137 := Aside0.mk A1370
      clear A1370
      obtain ⟨y550, hy550⟩ : ∃ y_ : List Int, y_ = (([0, 8, (-1), 7] : List Int)) := ⟨_, rfl⟩
      replace H : ((spec_l9Rd_num.f k s0_0 t549 y550).bind fun bt553 => (if 0 ≤ t548 then (if t548 < (t527.length : Int) then (some (t524, (t527.set (t548 : Int).toNat (⟨bt553.1, (⟨(rd_T56 t527 t548).f1.f0, (rd_T56 t527 t548).f1.f1⟩ : S36), (⟨(rd_T56 t527 t548).f2.f0, (rd_T56 t527 t548).f2.f1⟩ : S36)⟩ : S56)), bt553.2)) else (none)) else (none))) = some (r1, r2, r3) := by first | (rw [hy550]; exact H) | exact H
      have Ny550 := Aside0.mk hy550
      clear hy550
      replace H := Option.bind_eq_some_iff.mp H
      obtain ⟨⟨t553, t554⟩, A1380, H⟩ := H
      try dsimp -simprocs only at H
      have A138 := Aside0.mk A1380
      clear A1380
      by_cases c139 : 0 ≤ t548
      ·rw [if_pos c139] at H
       have c139b0 : decide (0 ≤ t548) = true := decide_eq_true c139
       clear c139
       by_cases c140 : t548 < (t527.length : Int)
       ·rw [if_pos c140] at H
        have c140b0 : decide (t548 < (t527.length : Int)) = true := decide_eq_true c140
        clear c140
        obtain ⟨y555, hy555⟩ : ∃ y_ : List (S56), y_ = (t527.set (t548 : Int).toNat (⟨t553, (⟨(rd_T56 t527 t548).f1.f0, (rd_T56 t527 t548).f1.f1⟩ : S36), (⟨(rd_T56 t527 t548).f2.f0, (rd_T56 t527 t548).f2.f1⟩ : S36)⟩ : S56)) := ⟨_, rfl⟩
        replace H : (some (t524, y555, t554)) = some (r1, r2, r3) := by first | (rw [hy555]; exact H) | exact H
        have Ny555 := Aside0.mk hy555
        clear hy555
        simp only [Option.some.injEq, Prod.mk.injEq] at H
        obtain ⟨rfl, rfl, rfl⟩ := H
        go_enter Try.func88, Try.ntmps88
        try go_wp2_with (first | ((with_reducible refine gd 3 rfl ?_); refine bx 3 (cs := #[.slice A1_0 l1_0.length c1_0, .slice A1_1 l1_1.length c1_1]) (t := 34) ?_; intro gb522 hg w142 hbox hb; replace HB := hs HB hb; have BK522 := Aside0.mk (hbox); have GW522 := gwk HK hg; have GE522 := gew HW0 GW522; replace HK := kb HK hb; have NB0_522 := nlt HI0 hg; have NB522_0 := nsy NB0_522; replace HI0 := ib HI0 hb; clear hb hbox hg) | ((with_reducible refine gd 4 rfl ?_); refine bx 4 (cs := #[.slice none 0 0, .slice none 0 0]) (t := 34) ?_; intro gb523 hg w143 hbox hb; replace HB := hs HB hb; have BK523 := Aside0.mk (hbox); have GW523 := gwk HK hg; have GE523 := gew HW0 GW523; replace HK := kb HK hb; have NB522_523 := nq BK522 hg; have NB523_522 := nq' BK522 hg; replace BK522 := bb BK522 hb rfl; have NB0_523 := nlt HI0 hg; have NB523_0 := nsy NB0_523; replace HI0 := ib HI0 hb; clear hb hbox hg; have hnb144 := NB522_523.out; have hnc144 := NB523_522.out; have hnb145 := NB522_0.out; have hnc145 := NB0_522.out; obtain ⟨hcz146_0, hcz146_1⟩ := bc2 (w := w143) BK522.out; have hfz146 := blk_frozen BK522.out) | ((with_reducible refine gc 97 rfl ?_); refine gl 10 Try.func97 #[.agg #[.slice A1_0 l1_0.length c1_0, .slice A1_1 l1_1.length c1_1]] ?_; (with_reducible refine (spec_l2Copy.calls _ _ l1_0 _ _ l1_1 t524 t527 _ ?side1 ?side2 ?side3 ?side4 A3.out).mono ?_); (case side1 => exact Kd.C_foot_now HR1_0.out (ks HK.out)); (case side2 => exact HC1_0.out); (case side3 => exact Kd.C_foot_now HR1_1.out (ks HK.out)); (case side4 => exact HC1_1.out); rintro e w147 ⟨v525, v528, rfl, ho0, ho1, hb⟩; refine ⟨_, rfl, ?_⟩; have HO526 := Aside0.mk (Kd.R_lower ho0 (keep_size (w := w) (g := g) (row := none) (ks HK.out))); have HO529 := Aside0.mk (Kd.R_lower ho1 (keep_size (w := w) (g := g) (row := none) (ks HK.out))); replace HI0 := ib HI0 hb; replace BK522 := bb BK522 hb rfl; replace BK523 := bb BK523 hb rfl; replace HK := kb HK hb; replace HB := hs HB hb; (try clear ho0 ho1 hb)) | ((with_reducible refine gd 5 rfl ?_); refine bx 5 (cs := #[.slice none 0 0, .slice none 0 0]) (t := 34) ?_; intro gb530 hg w148 hbox hb; replace HO526 := rb HO526 hb; replace HO529 := rb HO529 hb; replace HB := hs HB hb; have BK530 := Aside0.mk (hbox); have GW530 := gwk HK hg; have GE530 := gew HW0 GW530; replace HK := kb HK hb; have NB522_530 := nq BK522 hg; have NB530_522 := nq' BK522 hg; replace BK522 := bb BK522 hb rfl; have NB523_530 := nq BK523 hg; have NB530_523 := nq' BK523 hg; replace BK523 := bb BK523 hb rfl; have NB0_530 := nlt HI0 hg; have NB530_0 := nsy NB0_530; replace HI0 := ib HI0 hb; clear hb hbox hg; obtain ⟨Ao149, co149, eo149⟩ := Kd.R_slice HO526.out; subst eo149; have hnb150 := NB530_522.out; have hnc150 := NB522_530.out; have hnb151 := NB530_523.out; have hnc151 := NB523_530.out; have hnb152 := NB530_0.out; have hnc152 := NB0_530.out; obtain ⟨hcz153_0, hcz153_1⟩ := bc2 (w := w148) BK530.out; have hfz153 := blk_frozen BK530.out; obtain ⟨Ao154, co154, eo154⟩ := Kd.R_slice HO529.out; subst eo154) | ((with_reducible refine gc 120 rfl ?_); refine gl 18 Try.func120 #[.pointer (some ⟨g, 0, none⟩), .int .i64 60] ?_; (with_reducible refine (spec_l9Rd_pick.calls k g s0_0 s0_1 60 t531 t532 w0 _ ?side1 ?side2 A4.out).mono ?_); (case side1 => exact iis HI0.out); (case side2 => exact bs HB.out); rintro e w155 ⟨rfl, hi, hb, hk⟩; refine ⟨_, rfl, ?_⟩; replace BK522 := kk BK522 hk; replace BK523 := kk BK523 hk; replace HO526 := rp HO526 BK530 HI0 hk; replace HO529 := rp HO529 BK530 HI0 hk; replace BK530 := kp #[.slice Ao149 t524.length co149, .slice Ao154 t527.length co154] BK530 hk; replace HK := kt HK hk; replace HB := Aside0.mk (hb); replace HI0 := Aside0.mk (hi); (try clear hi hb hk)))
        replace HO526 := rd_ HO526
        replace HO529 := rd_ HO529
        replace BK522 := bd BK522
        replace BK523 := bd BK523
        replace BK530 := bd BK530
        replace HI0 := Aside0.mk (IsS126.drew HI0.out)
        replace HK := Aside0.mk (keep_drew HK.out)
        replace HB := hd HB
        refine start_ (n := 11) (S := fun w' => w'.cell? ⟨gb530, 0, none⟩ = some (.slice Ao149 t524.length co149) ∧ w'.cell? ⟨gb530, 1, none⟩ = some (.slice Ao154 t527.length co154)) (ds := [10]) #[false, false, false, false, false, false, false, false, false, false, false] (by kernel_rfl) rfl rfl ⟨(blk_cell BK530.out 0).trans rfl, (blk_cell BK530.out 1).trans rfl⟩ (fun hHeld => ?_); refine with_tabW spec_l2Bent.tab16 spec_l2Bent.bits16 (fun HT_ HW_ => ?_)
        generalize w155.drew = w156 at HO526 HO529 BK522 BK523 BK530 HI0 HK HB hHeld ⊢
        refine pu 0 58 ?_
        refine pu 2 60 ?_
        refine pu 3 61 ?_
        refine pu 5 63 ?_
        refine tk 1 59 ?_
        refine join_ (σ := Value) 4 #[true, true, true, true, true, true, true, false, false, false, false] (fun s_ => [(62, .int .i64 t548), (64, s_)]) (fun s_ w' => (w'.cell? ⟨gb530, 0, none⟩ = some (.slice Ao149 t524.length co149) ∧ w'.cell? ⟨gb530, 1, none⟩ = some (.slice Ao154 t527.length co154)) ∧ (Kd.R k36 36 w' w.heap.size (fun _ => True) (.slice Ao149 t524.length co149) t524) ∧ (Kd.R k56 56 w' w.heap.size (fun _ => True) (.slice Ao154 t527.length co154) t527) ∧ (Kd.R (Kd.int .i64) 3 w' w.heap.size (fun _ => True) s_ y550) ∧ (w'.heap[gb522]? = some (.cells #[.slice A1_0 l1_0.length c1_0, .slice A1_1 l1_1.length c1_1] 34 (0, 0))) ∧ (w'.heap[gb523]? = some (.cells #[.slice none 0 0, .slice none 0 0] 34 (0, 0))) ∧ (w'.heap[gb530]? = some (.cells #[.slice Ao149 t524.length co149, .slice Ao154 t527.length co154] 34 (0, 0))) ∧ (IsS126 w0 w' g s0_0 t549) ∧ (KeepBut w w' g none) ∧ (Below w0.heap.size w0 w')) ?_ ?_
        rotate_left
        ·intro hCont
         refine two_ (i := 4) (j := 6) (Ni := some 62) (Nj := some 64) #[true, true, true, true, true, true, false, false, false, false, false] #[true, true, true, true, false, true, true, false, false, false, false] rfl rfl rfl rfl (two_of HT_.out (by kernel_rfl)) (by decide) (by decide) (fun K hK => ?_) (fun K hK => ?_)
         ·skip
          refine gs Try.func120 #[.pointer (some ⟨g, 0, none⟩), .int .i64 (t527.length : Int)] ?_
          with_reducible refine (spec_l9Rd_pick.calls k g s0_0 t532 (t527.length : Int) t548 t549 w0 _ ?side1 ?side2 A137.out).mono ?_
          (case side1 => exact iis HI0.out)
          (case side2 => exact bs HB.out)
          rintro e w157 ⟨rfl, hi, hb, hk⟩
          refine ⟨_, rfl, ?_⟩
          replace BK522 := kk BK522 hk
          replace BK523 := kk BK523 hk
          replace HO526 := ro HO526 HI0 hk
          replace HO529 := ro HO529 HI0 hk
          replace BK530 := kk BK530 hk
          replace HK := kt HK hk
          replace HB := Aside0.mk (hb)
          replace HI0 := Aside0.mk (hi)
          (try clear hb)
          (try clear hb2)
          (try clear hk)
          (try clear hi)
          refine hK.out _ _ ⟨(blk_cell BK530.out 0).trans rfl, (blk_cell BK530.out 1).trans rfl⟩ (fun hHeld => ?_)
          clear hK K
          refine nrm 62 ?_
          refine one_ (i := 6) (N := some 64) #[true, true, true, true, true, true, true, false, false, false, false] rfl rfl (one_of HT_.out (by kernel_rfl)) (by decide) (fun K hK => ?_)
          refine Kd.R_lit_step (Kd.int .i64) _ 3 ?hg (N := 64) ?hd (xs := ([0, 8, (-1), 7] : List Int)) (inner := [.int .i64 0, .int .i64 8, .int .i64 (-1), .int .i64 7]) (ok := fun _ => True) (okp := fun _ => True) ?hr ?hp (fun _ hk => hk) trivial (Below.refl _ _) (Nat.le_refl _) (by simp) ?_; (case hd => rfl); (case hg => rfl); (case hr => first | (go_simp; done) | (go_simp; rfl)); (case hp => exact (Reps.one (show Kd.M (Kd.int .i64) _ _ _ 0 [.int .i64 0] from rfl) (Reps.one (show Kd.M (Kd.int .i64) _ _ _ 8 [.int .i64 8] from rfl) (Reps.one (show Kd.M (Kd.int .i64) _ _ _ (-1) [.int .i64 (-1)] from rfl) (Reps.one (show Kd.M (Kd.int .i64) _ _ _ 7 [.int .i64 7] from rfl) (Reps.none _ _))))))
          intro v551 w158 ho159 hb hg_ hnew_
          clear hg_ hnew_
          (first | rw [← Ny550.out] at ho159 | (simp only [Int.reduceToNat] at ho159; rw [← Ny550.out] at ho159))
          replace HO526 := rb HO526 hb
          replace HO529 := rb HO529 hb
          have HO552 := Aside0.mk (Kd.R_lower ho159 (keep_size (w := w) (g := g) (row := none) (ks HK.out)))
          replace HI0 := ib HI0 hb
          replace BK522 := bb BK522 hb rfl
          replace BK523 := bb BK523 hb rfl
          replace BK530 := bb BK530 hb rfl
          replace HK := kb HK hb
          replace HB := hs HB hb
          clear hb ho159
          refine hK.out _ _ ⟨(blk_cell BK530.out 0).trans rfl, (blk_cell BK530.out 1).trans rfl⟩ (fun hHeld => ?_)
          clear hK K
          refine nrm 64 ?_
          exact norm_ (by simp only [putAll, Act.put, List.setIfInBounds_toArray, List.set_cons_zero, List.set_cons_succ]) (hCont (v551) _ ⟨hHeld, (rl HO526.out), (rl HO529.out), (rl HO552.out), (bf BK522.out), (bf BK523.out), (bf BK530.out), (iis HI0.out), (ks HK.out), (bs HB.out)⟩)
         ·skip
          refine Kd.R_lit_step (Kd.int .i64) _ 3 ?hg (N := 64) ?hd (xs := ([0, 8, (-1), 7] : List Int)) (inner := [.int .i64 0, .int .i64 8, .int .i64 (-1), .int .i64 7]) (ok := fun _ => True) (okp := fun _ => True) ?hr ?hp (fun _ hk => hk) trivial (Below.refl _ _) (Nat.le_refl _) (by simp) ?_; (case hd => rfl); (case hg => rfl); (case hr => first | (go_simp; done) | (go_simp; rfl)); (case hp => exact (Reps.one (show Kd.M (Kd.int .i64) _ _ _ 0 [.int .i64 0] from rfl) (Reps.one (show Kd.M (Kd.int .i64) _ _ _ 8 [.int .i64 8] from rfl) (Reps.one (show Kd.M (Kd.int .i64) _ _ _ (-1) [.int .i64 (-1)] from rfl) (Reps.one (show Kd.M (Kd.int .i64) _ _ _ 7 [.int .i64 7] from rfl) (Reps.none _ _))))))
          intro v551 w157 ho158 hb hg_ hnew_
          clear hg_ hnew_
          (first | rw [← Ny550.out] at ho158 | (simp only [Int.reduceToNat] at ho158; rw [← Ny550.out] at ho158))
          replace HO526 := rb HO526 hb
          replace HO529 := rb HO529 hb
          have HO552 := Aside0.mk (Kd.R_lower ho158 (keep_size (w := w) (g := g) (row := none) (ks HK.out)))
          replace HI0 := ib HI0 hb
          replace BK522 := bb BK522 hb rfl
          replace BK523 := bb BK523 hb rfl
          replace BK530 := bb BK530 hb rfl
          replace HK := kb HK hb
          replace HB := hs HB hb
          clear hb ho158
          refine hK.out _ _ ⟨(blk_cell BK530.out 0).trans rfl, (blk_cell BK530.out 1).trans rfl⟩ (fun hHeld => ?_)
          clear hK K
          refine nrm 64 ?_
          refine one_ (i := 4) (N := some 62) #[true, true, true, true, true, true, true, false, false, false, false] rfl rfl (one_of HT_.out (by kernel_rfl)) (by decide) (fun K hK => ?_)
          refine gs Try.func120 #[.pointer (some ⟨g, 0, none⟩), .int .i64 (t527.length : Int)] ?_
          with_reducible refine (spec_l9Rd_pick.calls k g s0_0 t532 (t527.length : Int) t548 t549 w0 _ ?side1 ?side2 A137.out).mono ?_
          (case side1 => exact iis HI0.out)
          (case side2 => exact bs HB.out)
          rintro e w159 ⟨rfl, hi, hb, hk⟩
          refine ⟨_, rfl, ?_⟩
          replace BK522 := kk BK522 hk
          replace BK523 := kk BK523 hk
          replace HO526 := ro HO526 HI0 hk
          replace HO529 := ro HO529 HI0 hk
          replace BK530 := kk BK530 hk
          replace HO552 := ro HO552 HI0 hk
          replace HK := kt HK hk
          replace HB := Aside0.mk (hb)
          replace HI0 := Aside0.mk (hi)
          (try clear hb)
          (try clear hb2)
          (try clear hk)
          (try clear hi)
          refine hK.out _ _ ⟨(blk_cell BK530.out 0).trans rfl, (blk_cell BK530.out 1).trans rfl⟩ (fun hHeld => ?_)
          clear hK K
          refine nrm 62 ?_
          exact norm_ (by simp only [putAll, Act.put, List.setIfInBounds_toArray, List.set_cons_zero, List.set_cons_succ]) (hCont (v551) _ ⟨hHeld, (rl HO526.out), (rl HO529.out), (rl HO552.out), (bf BK522.out), (bf BK523.out), (bf BK530.out), (iis HI0.out), (ks HK.out), (bs HB.out)⟩)
        rintro v551 w160 ⟨hS_, h0_, h1_, h2_, h3_, h4_, h5_, h6_, h7_, h8_⟩
        have n0_ : Aside0 (Kd.R k36 36 w160 w.heap.size (fun _ => True) (.slice Ao149 t524.length co149) t524) := ⟨h0_⟩
        have n1_ : Aside0 (Kd.R k56 56 w160 w.heap.size (fun _ => True) (.slice Ao154 t527.length co154) t527) := ⟨h1_⟩
        have n2_ : Aside0 (Kd.R (Kd.int .i64) 3 w160 w.heap.size (fun _ => True) v551 y550) := ⟨h2_⟩
        have n3_ : Aside0 (w160.heap[gb522]? = some (.cells #[.slice A1_0 l1_0.length c1_0, .slice A1_1 l1_1.length c1_1] 34 (0, 0))) := ⟨h3_⟩
        have n4_ : Aside0 (w160.heap[gb523]? = some (.cells #[.slice none 0 0, .slice none 0 0] 34 (0, 0))) := ⟨h4_⟩
        have n5_ : Aside0 (w160.heap[gb530]? = some (.cells #[.slice Ao149 t524.length co149, .slice Ao154 t527.length co154] 34 (0, 0))) := ⟨h5_⟩
        have n6_ : Aside0 (IsS126 w0 w160 g s0_0 t549) := ⟨h6_⟩
        have n7_ : Aside0 (KeepBut w w160 g none) := ⟨h7_⟩
        have n8_ : Aside0 (Below w0.heap.size w0 w160) := ⟨h8_⟩
        clear HO526
        clear HO529
        clear BK522
        clear BK523
        clear BK530
        clear HI0
        clear HK
        clear HB
        clear h0_ h1_ h2_ h3_ h4_ h5_ h6_ h7_ h8_
        have HO526 := n0_
        have HO529 := n1_
        have HO552 := n2_
        have BK522 := n3_
        have BK523 := n4_
        have BK530 := n5_
        have HI0 := n6_
        have HK := n7_
        have HB := n8_
        clear n0_ n1_ n2_ n3_ n4_ n5_ n6_ n7_ n8_
        have hHeld : w160.cell? ⟨gb530, 0, none⟩ = some (.slice Ao149 t524.length co149) ∧ w160.cell? ⟨gb530, 1, none⟩ = some (.slice Ao154 t527.length co154) := hS_
        obtain ⟨Ao161, co161, eo161⟩ := Kd.R_slice HO552.out
        (first | subst eo161 | (injection eo161 with f1_ f2_ f3_; have f4_ := f1_.symm; have f5_ := f3_.symm; clear f1_ f2_ f3_; subst f4_; subst f5_))
        refine norm_ (a' := ?_) ?_ ?_
        rotate_left
        ·simp only [putAll, Act.put, List.setIfInBounds_toArray, List.set_cons_zero, List.set_cons_succ]
         rfl
        refine one_ (i := 7) (N := some 65) #[true, true, true, true, true, true, true, true, false, false, false] rfl rfl (one_of HT_.out (by kernel_rfl)) (by decide) (fun K hK => ?_)
        refine gs Try.func119 #[.pointer (some ⟨g, 0, none⟩), .slice Ao161 y550.length co161] ?_
        with_reducible refine (spec_l9Rd_num.calls k g s0_0 t549 _ _ y550 t553 t554 w0 _ ?side1 ?side2 ?side3 ?side4 ?side5 A138.out).mono ?_
        (case side1 => exact iis HI0.out)
        (case side2 => exact bs HB.out)
        (case side3 => exact cr HO552)
        (case side4 => exact (Kd.R_reads' HO552.out).2.1)
        (case side5 => exact far_slice (IsS126.own_ne HI0.out HO552.out (by decide)))
        rintro e w162 ⟨rfl, hi, hb, hk⟩
        refine ⟨_, rfl, ?_⟩
        replace BK522 := kk BK522 hk
        replace BK523 := kk BK523 hk
        replace HO526 := ro HO526 HI0 hk
        replace HO529 := ro HO529 HI0 hk
        replace BK530 := kk BK530 hk
        replace HO552 := ro HO552 HI0 hk
        replace HK := kt HK hk
        replace HB := Aside0.mk (hb)
        replace HI0 := Aside0.mk (hi)
        (try clear hb)
        (try clear hb2)
        (try clear hk)
        (try clear hi)
        have p141 : 0 ≤ (t548 : Int) := oda
        have q141 : (t548 : Int) < ((t527.length : Int) : Int) := oda
        obtain ⟨go141, co141, eo141, gb141, gl141, cl141, HG141⟩ := Kd.R_form HO529.out (by omega)
        (first | cases eo141 | (injection eo141 with ea_ en_ ec_; (first | subst ea_ | (injection ea_ with ea_; subst ea_)); subst ec_; clear en_))
        have GB141 := Aside0.mk gb141
        have GG141 := Aside0.mk HG141
        clear gb141 gl141 HG141
        obtain ⟨ce141, hcl141, hM141, hcc141, hfr141⟩ := Kd.R_elem HO529.out z56 (t548 : Int) p141 q141
        obtain rfl := k56_openM hM141
        have hx141_0 : World.cell? _ ⟨go141, (t548 : Int).toNat * 5, none⟩ = some (.int .i64 ((rd_T56 t527 t548).f0)) := hcc141 0 _ rfl
        have hx141_1 : World.cell? _ ⟨go141, (t548 : Int).toNat * 5 + 1, none⟩ = some (.int .i64 ((rd_T56 t527 t548).f1.f0)) := hcc141 1 _ rfl
        have hx141_2 : World.cell? _ ⟨go141, (t548 : Int).toNat * 5 + 2, none⟩ = some (.int .i64 ((rd_T56 t527 t548).f1.f1)) := hcc141 2 _ rfl
        have hx141_3 : World.cell? _ ⟨go141, (t548 : Int).toNat * 5 + 3, none⟩ = some (.int .i64 ((rd_T56 t527 t548).f2.f0)) := hcc141 3 _ rfl
        have hx141_4 : World.cell? _ ⟨go141, (t548 : Int).toNat * 5 + 4, none⟩ = some (.int .i64 ((rd_T56 t527 t548).f2.f1)) := hcc141 4 _ rfl
        have hf141_0 : World.frozen? _ ⟨go141, (t548 : Int).toNat * 5, none⟩ = false := hfr141 0
        have hf141_1 : World.frozen? _ ⟨go141, (t548 : Int).toNat * 5 + 1, none⟩ = false := hfr141 1
        have hf141_2 : World.frozen? _ ⟨go141, (t548 : Int).toNat * 5 + 2, none⟩ = false := hfr141 2
        have hf141_3 : World.frozen? _ ⟨go141, (t548 : Int).toNat * 5 + 3, none⟩ = false := hfr141 3
        have hf141_4 : World.frozen? _ ⟨go141, (t548 : Int).toNat * 5 + 4, none⟩ = false := hfr141 4
        clear hcl141 hcc141 hfr141 hM141
        replace p141 := eq_true p141
        replace q141 := eq_true q141
        have HN0_go141 := Aside0.mk (show g ≠ go141 from by have h_ := IsS126.own_ne HI0.out HO529.out (by decide); intro e_; exact h_ (by rw [e_]; rfl))
        obtain ⟨ce163, hcl163, hM163, hcc163, hfr163⟩ := Kd.R_elem HO529.out z56 (t548 : Int) (oda) (by have h_ : (t548 : Int) < ((t527.length : Int) : Int) := oda; first | exact h_ | (have e_ := (Kd.R_reads' HO529.out).1; omega) | simpa using h_)
        obtain rfl := k56_openM hM163
        have HP163 := (Kd.R_seg HO529.out (t548 : Int) (oda) (by have h_ : (t548 : Int) < ((t527.length : Int) : Int) := oda; first | exact h_ | (have e_ := (Kd.R_reads' HO529.out).1; omega) | simpa using h_) (seg := [.int .i64 t553]) (j := 0) hcl163 hcc163 (show 1 ≤ 5 from by decide) (x' := (⟨t553, (⟨(rd_T56 t527 t548).f1.f0, (rd_T56 t527 t548).f1.f1⟩ : S36), (⟨(rd_T56 t527 t548).f2.f0, (rd_T56 t527 t548).f2.f1⟩ : S36)⟩ : S56)) (k56_mkM _ _ _ (⟨t553, (⟨(rd_T56 t527 t548).f1.f0, (rd_T56 t527 t548).f1.f1⟩ : S36), (⟨(rd_T56 t527 t548).f2.f0, (rd_T56 t527 t548).f2.f1⟩ : S36)⟩ : S56) ) (fun _ hk => hk)).1
        rw [← Ny555.out] at HP163
        have HQ163 := Aside0.mk HP163
        clear hcl163 hcc163 hfr163 hM163 HP163
        refine hK.out _ _ ⟨(blk_cell BK530.out 0).trans rfl, (blk_cell BK530.out 1).trans rfl⟩ (fun hHeld => ?_)
        clear hK K
        refine nrm 65 ?_
        refine pu 8 66 ?_
        refine pu 9 67 ?_
        refine last_ (i := 10) (N := none) #[true, true, true, true, true, true, true, true, true, true, true] rfl rfl (one_of HT_.out (by kernel_rfl)) (by decide) (fun K hK => ?_)
        refine skip_ (w1 := ?_) (by rfl) rfl ?_ ?_
        rotate_left
        ·go_simp
         rfl
        refine hK.out _ _ ?_
        clear hK K
        refine done_ (done_of HT_.out (by kernel_rfl)) ?_
        have n0_ : Aside0 (Kd.R k36 36 (w162.setCell ⟨go141, (t548 : Int).toNat * 5, none⟩ (.int .i64 t553)) w.heap.size (fun _ => True) (.slice Ao149 t524.length co149) t524) := ⟨by (with_reducible repeat (first | apply Kd.R_alloc | apply Kd.R_drewN | apply Kd.R_drew)); exact Kd.R_mono (Kd.R_far (p := ⟨go141, (t548 : Int).toNat * 5, none⟩) (Kd.R_types HO526.out GG141.out (by decide)) (fun _ hk => hk.2) (.int .i64 t553)) (fun _ hk => trivial)⟩
        have n1_ : Aside0 (Kd.R k56 56 (w162.setCell ⟨go141, (t548 : Int).toNat * 5, none⟩ (.int .i64 t553)) w.heap.size (fun _ => True) (.slice (some ⟨go141, 0, none⟩) t527.length co154) y555) := ⟨by (with_reducible repeat (first | apply Kd.R_alloc | apply Kd.R_drewN | apply Kd.R_drew)); exact HQ163.out⟩
        have n2_ : Aside0 (Kd.R (Kd.int .i64) 3 (w162.setCell ⟨go141, (t548 : Int).toNat * 5, none⟩ (.int .i64 t553)) w.heap.size (fun _ => True) (.slice Ao161 y550.length co161) y550) := ⟨by (with_reducible repeat (first | apply Kd.R_alloc | apply Kd.R_drewN | apply Kd.R_drew)); exact Kd.R_mono (Kd.R_far (p := ⟨go141, (t548 : Int).toNat * 5, none⟩) (Kd.R_types HO552.out GG141.out (by decide)) (fun _ hk => hk.2) (.int .i64 t553)) (fun _ hk => trivial)⟩
        have n3_ : Aside0 ((w162.setCell ⟨go141, (t548 : Int).toNat * 5, none⟩ (.int .i64 t553)).heap[gb522]? = some (.cells #[.slice A1_0 l1_0.length c1_0, .slice A1_1 l1_1.length c1_1] 34 (0, 0))) := ⟨by (with_reducible repeat (first | refine blk_drewN ?_ _ | refine blk_drew ?_ | refine blk_alloc ?_ _)); refine blk_far ?_ (by have h_ := Kd.R_ne HO529.out BK522.out (by decide); intro e_; exact h_ (by rw [e_]; rfl)) _; exact bf BK522.out⟩
        have n4_ : Aside0 ((w162.setCell ⟨go141, (t548 : Int).toNat * 5, none⟩ (.int .i64 t553)).heap[gb523]? = some (.cells #[.slice none 0 0, .slice none 0 0] 34 (0, 0))) := ⟨by (with_reducible repeat (first | refine blk_drewN ?_ _ | refine blk_drew ?_ | refine blk_alloc ?_ _)); refine blk_far ?_ (by have h_ := Kd.R_ne HO529.out BK523.out (by decide); intro e_; exact h_ (by rw [e_]; rfl)) _; exact bf BK523.out⟩
        have n5_ : Aside0 ((w162.setCell ⟨go141, (t548 : Int).toNat * 5, none⟩ (.int .i64 t553)).heap[gb530]? = some (.cells #[.slice Ao149 t524.length co149, .slice (some ⟨go141, 0, none⟩) t527.length co154] 34 (0, 0))) := ⟨by (with_reducible repeat (first | refine blk_drewN ?_ _ | refine blk_drew ?_ | refine blk_alloc ?_ _)); refine blk_far ?_ (by have h_ := Kd.R_ne HO529.out BK530.out (by decide); intro e_; exact h_ (by rw [e_]; rfl)) _; exact bf BK530.out⟩
        have n6_ : Aside0 (IsS126 w0 (w162.setCell ⟨go141, (t548 : Int).toNat * 5, none⟩ (.int .i64 t553)) g s0_0 t554) := ⟨by repeat (first | (with_reducible first | exact HI0.out | apply IsS126.alloc | apply IsS126.drewN | apply IsS126.drew | apply IsS126.set_1 | refine IsS126.far ?_ HN0_go141.out _ | refine IsS126.far ?_ NB0_522.out _ | refine IsS126.far ?_ NB0_523.out _ | refine IsS126.far ?_ NB0_530.out _) | exact HI0.out)⟩
        have n7_ : Aside0 (KeepBut w (w162.setCell ⟨go141, (t548 : Int).toNat * 5, none⟩ (.int .i64 t553)) g none) := ⟨by repeat (first | (with_reducible first | exact HK.out | apply KeepBut.set_ | apply keep_drewN | apply keep_drew | apply keep_alloc | refine keep_far ?_ GB141.out _ | refine keep_far ?_ GW522.out _ | refine keep_far ?_ GW523.out _ | refine keep_far ?_ GW530.out _) | exact HK.out)⟩
        have n8_ : Aside0 (Below w0.heap.size w0 (w162.setCell ⟨go141, (t548 : Int).toNat * 5, none⟩ (.int .i64 t553))) := ⟨by repeat (first | (with_reducible first | exact HB.out | apply below_alloc | apply pw_below_drewN | apply below_drew1 | refine below_set ?_ (Nat.le_trans HL.out GB141.out) | refine below_set ?_ (IsS126.ge HI0.out) | refine below_set ?_ GE522.out | refine below_set ?_ GE523.out | refine below_set ?_ GE530.out) | exact HB.out)⟩
        (try clear HO526)
        (try clear HO529)
        (try clear HO552)
        (try clear BK522)
        (try clear BK523)
        (try clear BK530)
        (try clear HI0)
        (try clear HK)
        (try clear HB)
        generalize (w162.setCell ⟨go141, (t548 : Int).toNat * 5, none⟩ (.int .i64 t553)) = w164 at n0_ n1_ n2_ n3_ n4_ n5_ n6_ n7_ n8_ ⊢
        have HO526 := n0_
        have HO529 := n1_
        have HO552 := n2_
        have BK522 := n3_
        have BK523 := n4_
        have BK530 := n5_
        have HI0 := n6_
        have HK := n7_
        have HB := n8_
        clear n0_ n1_ n2_ n3_ n4_ n5_ n6_ n7_ n8_
        obtain ⟨hcz165_0, hcz165_1⟩ := bc2 (w := w164) BK530.out
        have hfz165 := blk_frozen BK530.out
        have hnb166 := NB523_0.out
        have hnc166 := NB0_523.out
        obtain ⟨hcz167_0, hcz167_1⟩ := bc2 (w := w164) BK523.out
        have hfz167 := blk_frozen BK523.out
        try go_wp2
        refine bodyPost_ret (results_cell_row rfl _ _ gb523 34 #[.slice Ao149 t524.length co149, .slice (some ⟨go141, 0, none⟩) t527.length co154] (0, 0) _ rfl (bp BK523.out rfl) Try.underlying34 rfl (by kernel_rfl)) rfl ?_
        exact ⟨_, _, eqr, Kd.Q_of_R (Kd.R_mono (rt HO526.out BK523.out (by decide)) (fun _ hk => trivial)), Kd.R_mono (rt HO529.out BK523.out (by decide)) (fun _ hk => trivial), iis HI0.out, bs HB.out, ks HK.out⟩
       ·rw [if_neg c140] at H
        exact absurd H (by simp)
      ·rw [if_neg c139] at H
       exact absurd H (by simp)
     ·rw [if_neg c136] at H
      have c136b0 : decide (0 < (t527.length : Int)) = false := decide_eq_false c136
      have c136b1 : decide (0 < t527.length) = false := decide_eq_false (by omega)
      clear c136
      simp only [Option.some.injEq, Prod.mk.injEq] at H
      obtain ⟨rfl, rfl, rfl⟩ := H
      go_enter Try.func88, Try.ntmps88
      go_wp2_with (first | ((with_reducible refine gd 3 rfl ?_); refine bx 3 (cs := #[.slice A1_0 l1_0.length c1_0, .slice A1_1 l1_1.length c1_1]) (t := 34) ?_; intro gb522 hg w168 hbox hb; replace HB := hs HB hb; have BK522 := Aside0.mk (hbox); have GW522 := gwk HK hg; have GE522 := gew HW0 GW522; replace HK := kb HK hb; have NB0_522 := nlt HI0 hg; have NB522_0 := nsy NB0_522; replace HI0 := ib HI0 hb; clear hb hbox hg) | ((with_reducible refine gd 4 rfl ?_); refine bx 4 (cs := #[.slice none 0 0, .slice none 0 0]) (t := 34) ?_; intro gb523 hg w169 hbox hb; replace HB := hs HB hb; have BK523 := Aside0.mk (hbox); have GW523 := gwk HK hg; have GE523 := gew HW0 GW523; replace HK := kb HK hb; have NB522_523 := nq BK522 hg; have NB523_522 := nq' BK522 hg; replace BK522 := bb BK522 hb rfl; have NB0_523 := nlt HI0 hg; have NB523_0 := nsy NB0_523; replace HI0 := ib HI0 hb; clear hb hbox hg; have hnb170 := NB522_523.out; have hnc170 := NB523_522.out; have hnb171 := NB522_0.out; have hnc171 := NB0_522.out; obtain ⟨hcz172_0, hcz172_1⟩ := bc2 (w := w169) BK522.out; have hfz172 := blk_frozen BK522.out) | ((with_reducible refine gc 97 rfl ?_); refine gl 10 Try.func97 #[.agg #[.slice A1_0 l1_0.length c1_0, .slice A1_1 l1_1.length c1_1]] ?_; (with_reducible refine (spec_l2Copy.calls _ _ l1_0 _ _ l1_1 t524 t527 _ ?side1 ?side2 ?side3 ?side4 A3.out).mono ?_); (case side1 => exact Kd.C_foot_now HR1_0.out (ks HK.out)); (case side2 => exact HC1_0.out); (case side3 => exact Kd.C_foot_now HR1_1.out (ks HK.out)); (case side4 => exact HC1_1.out); rintro e w173 ⟨v525, v528, rfl, ho0, ho1, hb⟩; refine ⟨_, rfl, ?_⟩; have HO526 := Aside0.mk (Kd.R_lower ho0 (keep_size (w := w) (g := g) (row := none) (ks HK.out))); have HO529 := Aside0.mk (Kd.R_lower ho1 (keep_size (w := w) (g := g) (row := none) (ks HK.out))); replace HI0 := ib HI0 hb; replace BK522 := bb BK522 hb rfl; replace BK523 := bb BK523 hb rfl; replace HK := kb HK hb; replace HB := hs HB hb; (try clear ho0 ho1 hb)) | ((with_reducible refine gd 5 rfl ?_); refine bx 5 (cs := #[.slice none 0 0, .slice none 0 0]) (t := 34) ?_; intro gb530 hg w174 hbox hb; replace HO526 := rb HO526 hb; replace HO529 := rb HO529 hb; replace HB := hs HB hb; have BK530 := Aside0.mk (hbox); have GW530 := gwk HK hg; have GE530 := gew HW0 GW530; replace HK := kb HK hb; have NB522_530 := nq BK522 hg; have NB530_522 := nq' BK522 hg; replace BK522 := bb BK522 hb rfl; have NB523_530 := nq BK523 hg; have NB530_523 := nq' BK523 hg; replace BK523 := bb BK523 hb rfl; have NB0_530 := nlt HI0 hg; have NB530_0 := nsy NB0_530; replace HI0 := ib HI0 hb; clear hb hbox hg; obtain ⟨Ao175, co175, eo175⟩ := Kd.R_slice HO526.out; subst eo175; have hnb176 := NB530_522.out; have hnc176 := NB522_530.out; have hnb177 := NB530_523.out; have hnc177 := NB523_530.out; have hnb178 := NB530_0.out; have hnc178 := NB0_530.out; obtain ⟨hcz179_0, hcz179_1⟩ := bc2 (w := w174) BK530.out; have hfz179 := blk_frozen BK530.out; obtain ⟨Ao180, co180, eo180⟩ := Kd.R_slice HO529.out; subst eo180) | ((with_reducible refine gc 120 rfl ?_); refine gl 18 Try.func120 #[.pointer (some ⟨g, 0, none⟩), .int .i64 60] ?_; (with_reducible refine (spec_l9Rd_pick.calls k g s0_0 s0_1 60 t531 t532 w0 _ ?side1 ?side2 A4.out).mono ?_); (case side1 => exact iis HI0.out); (case side2 => exact bs HB.out); rintro e w181 ⟨rfl, hi, hb, hk⟩; refine ⟨_, rfl, ?_⟩; replace BK522 := kk BK522 hk; replace BK523 := kk BK523 hk; replace HO526 := rp HO526 BK530 HI0 hk; replace HO529 := rp HO529 BK530 HI0 hk; replace BK530 := kp #[.slice Ao175 t524.length co175, .slice Ao180 t527.length co180] BK530 hk; replace HK := kt HK hk; replace HB := Aside0.mk (hb); replace HI0 := Aside0.mk (hi); (try clear hi hb hk); obtain ⟨hcz182_0, hcz182_1⟩ := bc2 (w := w181) BK530.out; have hfz182 := blk_frozen BK530.out; have hnb183 := NB523_0.out; have hnc183 := NB0_523.out; obtain ⟨hcz184_0, hcz184_1⟩ := bc2 (w := w181) BK523.out; have hfz184 := blk_frozen BK523.out))
      refine bodyPost_ret (results_cell_row rfl _ _ gb523 34 #[.slice Ao175 t524.length co175, .slice Ao180 t527.length co180] (0, 0) _ rfl (bp BK523.out rfl) Try.underlying34 rfl (by kernel_rfl)) rfl ?_
      exact ⟨_, _, eqr, Kd.Q_of_R (Kd.R_mono (rt HO526.out BK523.out (by decide)) (fun _ hk => trivial)), Kd.R_mono (rt HO529.out BK523.out (by decide)) (fun _ hk => trivial), iis HI0.out, bs HB.out, ks HK.out⟩
    ·rw [if_neg c135] at H
     have c135b0 : (t531 == 3) = false := beq_eq_false_iff_ne.mpr c135
     have c135b1 : (t531 != 3) = true := bne_iff_ne.mpr c135
     by_cases c185 : t531 = 4
     ·rw [if_pos c185] at H
      have c185b0 : (t531 == 4) = true := beq_iff_eq.mpr c185
      have c185b1 : (t531 != 4) = false := bne_eq_false_iff_eq.mpr c185
      clear c185
      by_cases c186 : (t527.length : Int) > 0
      ·rw [if_pos c186] at H
       have c186b0 : decide (0 < (t527.length : Int)) = true := decide_eq_true c186
       have c186b1 : decide (0 < t527.length) = true := decide_eq_true (by omega)
       clear c186
       by_cases c187 : 0 < (t527.length : Int)
       ·rw [if_pos c187] at H
        have c187b0 : decide (0 < (t527.length : Int)) = true := decide_eq_true c187
        have c187b1 : decide (0 < t527.length) = true := decide_eq_true (by omega)
        clear c187
        by_cases c188 : t527.length < 3518437208883
        ·rw [if_pos c188] at H
         have LMc188 := Aside0.mk c188
         clear c188
         obtain ⟨y557, hy557⟩ : ∃ y_ : List (S56), y_ = (t527 ++ [(⟨(rd_T56 t527 0).f0, (⟨(rd_T56 t527 0).f1.f0, (rd_T56 t527 0).f1.f1⟩ : S36), (⟨(rd_T56 t527 0).f2.f0, (rd_T56 t527 0).f2.f1⟩ : S36)⟩ : S56)]) := ⟨_, rfl⟩
         replace H : (some (t524, y557, t532)) = some (r1, r2, r3) := by first | (rw [hy557]; exact H) | exact H
         have Ny557 := Aside0.mk hy557
         clear hy557
         simp only [Option.some.injEq, Prod.mk.injEq] at H
         obtain ⟨rfl, rfl, rfl⟩ := H
         go_enter Try.func88, Try.ntmps88
         try go_wp2_with (first | ((with_reducible refine gd 3 rfl ?_); refine bx 3 (cs := #[.slice A1_0 l1_0.length c1_0, .slice A1_1 l1_1.length c1_1]) (t := 34) ?_; intro gb522 hg w189 hbox hb; replace HB := hs HB hb; have BK522 := Aside0.mk (hbox); have GW522 := gwk HK hg; have GE522 := gew HW0 GW522; replace HK := kb HK hb; have NB0_522 := nlt HI0 hg; have NB522_0 := nsy NB0_522; replace HI0 := ib HI0 hb; clear hb hbox hg) | ((with_reducible refine gd 4 rfl ?_); refine bx 4 (cs := #[.slice none 0 0, .slice none 0 0]) (t := 34) ?_; intro gb523 hg w190 hbox hb; replace HB := hs HB hb; have BK523 := Aside0.mk (hbox); have GW523 := gwk HK hg; have GE523 := gew HW0 GW523; replace HK := kb HK hb; have NB522_523 := nq BK522 hg; have NB523_522 := nq' BK522 hg; replace BK522 := bb BK522 hb rfl; have NB0_523 := nlt HI0 hg; have NB523_0 := nsy NB0_523; replace HI0 := ib HI0 hb; clear hb hbox hg; have hnb191 := NB522_523.out; have hnc191 := NB523_522.out; have hnb192 := NB522_0.out; have hnc192 := NB0_522.out; obtain ⟨hcz193_0, hcz193_1⟩ := bc2 (w := w190) BK522.out; have hfz193 := blk_frozen BK522.out) | ((with_reducible refine gc 97 rfl ?_); refine gl 10 Try.func97 #[.agg #[.slice A1_0 l1_0.length c1_0, .slice A1_1 l1_1.length c1_1]] ?_; (with_reducible refine (spec_l2Copy.calls _ _ l1_0 _ _ l1_1 t524 t527 _ ?side1 ?side2 ?side3 ?side4 A3.out).mono ?_); (case side1 => exact Kd.C_foot_now HR1_0.out (ks HK.out)); (case side2 => exact HC1_0.out); (case side3 => exact Kd.C_foot_now HR1_1.out (ks HK.out)); (case side4 => exact HC1_1.out); rintro e w194 ⟨v525, v528, rfl, ho0, ho1, hb⟩; refine ⟨_, rfl, ?_⟩; have HO526 := Aside0.mk (Kd.R_lower ho0 (keep_size (w := w) (g := g) (row := none) (ks HK.out))); have HO529 := Aside0.mk (Kd.R_lower ho1 (keep_size (w := w) (g := g) (row := none) (ks HK.out))); replace HI0 := ib HI0 hb; replace BK522 := bb BK522 hb rfl; replace BK523 := bb BK523 hb rfl; replace HK := kb HK hb; replace HB := hs HB hb; (try clear ho0 ho1 hb)) | ((with_reducible refine gd 5 rfl ?_); refine bx 5 (cs := #[.slice none 0 0, .slice none 0 0]) (t := 34) ?_; intro gb530 hg w195 hbox hb; replace HO526 := rb HO526 hb; replace HO529 := rb HO529 hb; replace HB := hs HB hb; have BK530 := Aside0.mk (hbox); have GW530 := gwk HK hg; have GE530 := gew HW0 GW530; replace HK := kb HK hb; have NB522_530 := nq BK522 hg; have NB530_522 := nq' BK522 hg; replace BK522 := bb BK522 hb rfl; have NB523_530 := nq BK523 hg; have NB530_523 := nq' BK523 hg; replace BK523 := bb BK523 hb rfl; have NB0_530 := nlt HI0 hg; have NB530_0 := nsy NB0_530; replace HI0 := ib HI0 hb; clear hb hbox hg; obtain ⟨Ao196, co196, eo196⟩ := Kd.R_slice HO526.out; subst eo196; have hnb197 := NB530_522.out; have hnc197 := NB522_530.out; have hnb198 := NB530_523.out; have hnc198 := NB523_530.out; have hnb199 := NB530_0.out; have hnc199 := NB0_530.out; obtain ⟨hcz200_0, hcz200_1⟩ := bc2 (w := w195) BK530.out; have hfz200 := blk_frozen BK530.out; obtain ⟨Ao201, co201, eo201⟩ := Kd.R_slice HO529.out; subst eo201) | ((with_reducible refine gc 120 rfl ?_); refine gl 18 Try.func120 #[.pointer (some ⟨g, 0, none⟩), .int .i64 60] ?_; (with_reducible refine (spec_l9Rd_pick.calls k g s0_0 s0_1 60 t531 t532 w0 _ ?side1 ?side2 A4.out).mono ?_); (case side1 => exact iis HI0.out); (case side2 => exact bs HB.out); rintro e w202 ⟨rfl, hi, hb, hk⟩; refine ⟨_, rfl, ?_⟩; replace BK522 := kk BK522 hk; replace BK523 := kk BK523 hk; replace HO526 := rp HO526 BK530 HI0 hk; replace HO529 := rp HO529 BK530 HI0 hk; replace BK530 := kp #[.slice Ao196 t524.length co196, .slice Ao201 t527.length co201] BK530 hk; replace HK := kt HK hk; replace HB := Aside0.mk (hb); replace HI0 := Aside0.mk (hi); (try clear hi hb hk)))
         replace HO526 := rd_ HO526
         replace HO529 := rd_ HO529
         replace BK522 := bd BK522
         replace BK523 := bd BK523
         replace BK530 := bd BK530
         replace HI0 := Aside0.mk (IsS126.drew HI0.out)
         replace HK := Aside0.mk (keep_drew HK.out)
         replace HB := hd HB
         have p556 : 0 ≤ (0 : Int) := (by omega)
         have q556 : 0 < (t527.length : Int) := oda
         obtain ⟨ad556, e556, hx556_0, hx556_1, hx556_2, hx556_3, hx556_4⟩ := at_T56 (Kd.R_reads' HO529.out).2.2 0 p556 q556
         cases e556
         have qi556 : (0 < t527.length) = True := eq_true (by omega)
         (try rw [show ((0 : Int)).toNat = 0 from rfl] at hx556_0)
         (try rw [show 0 * 5 = 0 from rfl] at hx556_0)
         (try rw [Addr.add_zero'] at hx556_0)
         (try rw [show ((0 : Int)).toNat = 0 from rfl] at hx556_1)
         (try rw [show 0 * 5 = 0 from rfl] at hx556_1)
         (try rw [Addr.add_zero'] at hx556_1)
         (try rw [show ((0 : Int)).toNat = 0 from rfl] at hx556_2)
         (try rw [show 0 * 5 = 0 from rfl] at hx556_2)
         (try rw [Addr.add_zero'] at hx556_2)
         (try rw [show ((0 : Int)).toNat = 0 from rfl] at hx556_3)
         (try rw [show 0 * 5 = 0 from rfl] at hx556_3)
         (try rw [Addr.add_zero'] at hx556_3)
         (try rw [show ((0 : Int)).toNat = 0 from rfl] at hx556_4)
         (try rw [show 0 * 5 = 0 from rfl] at hx556_4)
         (try rw [Addr.add_zero'] at hx556_4)
         replace p556 := eq_true p556
         replace q556 := eq_true q556
         refine start_ (n := 10) (S := fun w' => w'.cell? ⟨gb530, 0, none⟩ = some (.slice Ao196 t524.length co196) ∧ w'.cell? ⟨gb530, 1, none⟩ = some (.slice (some ad556) t527.length co201) ∧ w'.cell? ad556 = some (.int .i64 ((rd_T56 t527 0).f0)) ∧ w'.cell? ⟨ad556.block, ad556.off + 1, none⟩ = some (.int .i64 ((rd_T56 t527 0).f1.f0)) ∧ w'.cell? ⟨ad556.block, ad556.off + 2, none⟩ = some (.int .i64 ((rd_T56 t527 0).f1.f1)) ∧ w'.cell? ⟨ad556.block, ad556.off + 3, none⟩ = some (.int .i64 ((rd_T56 t527 0).f2.f0)) ∧ w'.cell? ⟨ad556.block, ad556.off + 4, none⟩ = some (.int .i64 ((rd_T56 t527 0).f2.f1))) (ds := [7, 9]) #[false, false, false, false, false, false, false, false, false, false] (by kernel_rfl) rfl rfl ⟨(blk_cell BK530.out 0).trans rfl, (blk_cell BK530.out 1).trans rfl, hx556_0, hx556_1, hx556_2, hx556_3, hx556_4⟩ (fun hHeld => ?_); refine with_tabW spec_l2Bent.tab19 spec_l2Bent.bits19 (fun HT_ HW_ => ?_)
         generalize w202.drew = w203 at HO526 HO529 BK522 BK523 BK530 HI0 HK HB hx556_0 hx556_1 hx556_2 hx556_3 hx556_4 hHeld ⊢
         refine pu 0 72 ?_
         refine pu 2 74 ?_
         refine tk 1 73 ?_
         refine tk 3 75 ?_
         refine pu 4 76 ?_
         refine tk 5 77 ?_
         refine one_ (i := 6) (N := some 78) #[true, true, true, true, true, true, true, false, false, false] rfl rfl (one_of HT_.out (by kernel_rfl)) (by decide) (fun K hK => ?_)
         refine value_ (w1 := ?_) (v := ?_) (by rfl) rfl ?_ ?_
         rotate_left 2
         ·go_simp
          constructor
          ·rfl
          ·rfl
         refine hK.out _ _ ⟨(blk_cell (blk_alloc BK530.out _) 0).trans rfl, (blk_cell (blk_alloc BK530.out _) 1).trans rfl, (World.cell?_alloc_lt _ _ _ (World.block_lt_of_cell? _ _ (hHeld.2.2.1))).trans (hHeld.2.2.1), (World.cell?_alloc_lt _ _ _ (World.block_lt_of_cell? _ _ (hHeld.2.2.2.1))).trans (hHeld.2.2.2.1), (World.cell?_alloc_lt _ _ _ (World.block_lt_of_cell? _ _ (hHeld.2.2.2.2.1))).trans (hHeld.2.2.2.2.1), (World.cell?_alloc_lt _ _ _ (World.block_lt_of_cell? _ _ (hHeld.2.2.2.2.2.1))).trans (hHeld.2.2.2.2.2.1), (World.cell?_alloc_lt _ _ _ (World.block_lt_of_cell? _ _ (hHeld.2.2.2.2.2.2))).trans (hHeld.2.2.2.2.2.2)⟩ (fun hHeld => ?_)
         clear hK K
         refine nrm 78 ?_
         refine last_ (i := 7) (N := some 79) #[true, true, true, true, true, true, true, true, false, false] rfl rfl (one_of HT_.out (by kernel_rfl)) (by decide) (fun K hK => ?_)
         refine Kd.R_append_step k56 w.heap.size (by rfl) (.tmp 73) (.tmp 78) 32 56 (.agg #[(.int .i64 0), (.int .i64 0), (.int .i64 0), (.int .i64 0), (.int .i64 0)]) 40 rfl Try.underlying32 info56 rfl (by decide) (by omega) (.slice (some ad556) t527.length co201) t527 (⟨(rd_T56 t527 0).f0, (⟨(rd_T56 t527 0).f1.f0, (rd_T56 t527 0).f1.f1⟩ : S36), (⟨(rd_T56 t527 0).f2.f0, (rd_T56 t527 0).f2.f1⟩ : S36)⟩ : S56) [.int .i64 ((rd_T56 t527 0).f0), .int .i64 ((rd_T56 t527 0).f1.f0), .int .i64 ((rd_T56 t527 0).f1.f1), .int .i64 ((rd_T56 t527 0).f2.f0), .int .i64 ((rd_T56 t527 0).f2.f1)] (fun _ => True) (fun _ => False) rfl rfl ?aP (fun _ hk => hk.elim) ?aF ?aO (Below.refl _ _) ?aS ?aL ?_
         (case aP => exact k56_mkM _ _ _ (⟨(rd_T56 t527 0).f0, (⟨(rd_T56 t527 0).f1.f0, (rd_T56 t527 0).f1.f1⟩ : S36), (⟨(rd_T56 t527 0).f2.f0, (rd_T56 t527 0).f2.f1⟩ : S36)⟩ : S56))
         (case aF => exact (fun _ _ => trivial))
         (case aO => exact (rl HO529.out))
         (case aS => exact (keep_size (w := w) (g := g) (row := none) (ks HK.out)))
         (case aL => have := LMc188.out; omega)
         intro v558 w204 ho hb hg hat
         rw [← Ny557.out] at ho
         replace HI0 := Aside0.mk (IsS126.grown (iis HI0.out) hg (IsS126.own_ne HI0.out HO529.out (by decide)))
         replace BK522 := gr BK522 HO529 hg
         replace BK523 := gr BK523 HO529 hg
         replace HO526 := Aside0.mk (Kd.R_over' (rl HO526.out) (Kd.R_typed (rl HO529.out)) (by decide) hg)
         replace BK530 := gr BK530 HO529 hg
         replace HB := Aside0.mk (below_weaken (bs HB.out) HL.out hb)
         replace HK := Aside0.mk (KeepBut.trans (ks HK.out) (KeepBut.of_grown hg g) (Kd.R_base2 HO529.out))
         have HO559 := Aside0.mk (ho)
         clear HO529
         clear ho hb hg hat
         obtain ⟨Ao205, co205, eo205⟩ := Kd.R_slice HO559.out
         (first | subst eo205 | (injection eo205 with f1_ f2_ f3_; have f4_ := f1_.symm; have f5_ := f3_.symm; clear f1_ f2_ f3_; subst f4_; subst f5_))
         refine hK.out _ _ ?_
         clear hK K
         refine nrm 79 ?_
         refine pu 8 80 ?_
         refine last_ (i := 9) (N := none) #[true, true, true, true, true, true, true, true, true, true] rfl rfl (one_of HT_.out (by kernel_rfl)) (by decide) (fun K hK => ?_)
         have hs206 : w204.cell? ⟨gb530, 1, none⟩ = some (.slice (some ad556) t527.length co201) := (blk_cell BK530.out 1).trans rfl
         have hfs206 := blk_frozen BK530.out 1
         have hns206_0 := NB522_530.out
         have hns206_1 := NB523_530.out
         have hms206_0 := NB530_522.out
         have hms206_1 := NB530_523.out
         refine skip_ (w1 := ?_) (by rfl) rfl ?_ ?_
         rotate_left
         ·go_simp
          rfl
         refine hK.out _ _ ?_
         clear hK K
         refine done_ (done_of HT_.out (by kernel_rfl)) ?_
         obtain ⟨hcz207_0, hcz207_1⟩ := bc2 (w := w204) BK530.out
         have hfz207 := blk_frozen BK530.out
         have hnb208 := NB523_0.out
         have hnc208 := NB0_523.out
         obtain ⟨hcz209_0, hcz209_1⟩ := bc2 (w := w204) BK523.out
         have hfz209 := blk_frozen BK523.out
         try go_wp2
         refine bodyPost_ret (results_cell_row rfl _ _ gb523 34 #[.slice Ao196 t524.length co196, .slice Ao205 y557.length co205] (0, 0) _ rfl (bp BK523.out rfl) Try.underlying34 rfl (by kernel_rfl)) rfl ?_
         exact ⟨_, _, eqr, Kd.Q_of_R (by (with_reducible repeat (first | apply Kd.R_alloc | apply Kd.R_drewN | apply Kd.R_drew)); exact Kd.R_mono (Kd.R_far (p := ⟨gb523, 1, none⟩) (Kd.R_far (p := ⟨gb523, 0, none⟩) (Kd.R_far (p := ⟨gb530, 1, none⟩) (Kd.R_types (Kd.R_types HO526.out BK530.out (by decide)) BK523.out (by decide)) (fun _ hk => hk.1.2) (.slice Ao205 y557.length co205)) (fun _ hk => hk.2) (.slice Ao196 t524.length co196)) (fun _ hk => hk.2) (.slice Ao205 y557.length co205)) (fun _ hk => trivial)), by (with_reducible repeat (first | apply Kd.R_alloc | apply Kd.R_drewN | apply Kd.R_drew)); exact Kd.R_mono (Kd.R_far (p := ⟨gb523, 1, none⟩) (Kd.R_far (p := ⟨gb523, 0, none⟩) (Kd.R_far (p := ⟨gb530, 1, none⟩) (Kd.R_types (Kd.R_types HO559.out BK530.out (by decide)) BK523.out (by decide)) (fun _ hk => hk.1.2) (.slice Ao205 y557.length co205)) (fun _ hk => hk.2) (.slice Ao196 t524.length co196)) (fun _ hk => hk.2) (.slice Ao205 y557.length co205)) (fun _ hk => trivial), iis HI0.out, bs HB.out, ks HK.out⟩
        ·rw [if_neg c188] at H
         exact absurd H (by simp)
       ·rw [if_neg c187] at H
        exact absurd H (by simp)
      ·rw [if_neg c186] at H
       have c186b0 : decide (0 < (t527.length : Int)) = false := decide_eq_false c186
       have c186b1 : decide (0 < t527.length) = false := decide_eq_false (by omega)
       clear c186
       simp only [Option.some.injEq, Prod.mk.injEq] at H
       obtain ⟨rfl, rfl, rfl⟩ := H
       go_enter Try.func88, Try.ntmps88
       go_wp2_with (first | ((with_reducible refine gd 3 rfl ?_); refine bx 3 (cs := #[.slice A1_0 l1_0.length c1_0, .slice A1_1 l1_1.length c1_1]) (t := 34) ?_; intro gb522 hg w210 hbox hb; replace HB := hs HB hb; have BK522 := Aside0.mk (hbox); have GW522 := gwk HK hg; have GE522 := gew HW0 GW522; replace HK := kb HK hb; have NB0_522 := nlt HI0 hg; have NB522_0 := nsy NB0_522; replace HI0 := ib HI0 hb; clear hb hbox hg) | ((with_reducible refine gd 4 rfl ?_); refine bx 4 (cs := #[.slice none 0 0, .slice none 0 0]) (t := 34) ?_; intro gb523 hg w211 hbox hb; replace HB := hs HB hb; have BK523 := Aside0.mk (hbox); have GW523 := gwk HK hg; have GE523 := gew HW0 GW523; replace HK := kb HK hb; have NB522_523 := nq BK522 hg; have NB523_522 := nq' BK522 hg; replace BK522 := bb BK522 hb rfl; have NB0_523 := nlt HI0 hg; have NB523_0 := nsy NB0_523; replace HI0 := ib HI0 hb; clear hb hbox hg; have hnb212 := NB522_523.out; have hnc212 := NB523_522.out; have hnb213 := NB522_0.out; have hnc213 := NB0_522.out; obtain ⟨hcz214_0, hcz214_1⟩ := bc2 (w := w211) BK522.out; have hfz214 := blk_frozen BK522.out) | ((with_reducible refine gc 97 rfl ?_); refine gl 10 Try.func97 #[.agg #[.slice A1_0 l1_0.length c1_0, .slice A1_1 l1_1.length c1_1]] ?_; (with_reducible refine (spec_l2Copy.calls _ _ l1_0 _ _ l1_1 t524 t527 _ ?side1 ?side2 ?side3 ?side4 A3.out).mono ?_); (case side1 => exact Kd.C_foot_now HR1_0.out (ks HK.out)); (case side2 => exact HC1_0.out); (case side3 => exact Kd.C_foot_now HR1_1.out (ks HK.out)); (case side4 => exact HC1_1.out); rintro e w215 ⟨v525, v528, rfl, ho0, ho1, hb⟩; refine ⟨_, rfl, ?_⟩; have HO526 := Aside0.mk (Kd.R_lower ho0 (keep_size (w := w) (g := g) (row := none) (ks HK.out))); have HO529 := Aside0.mk (Kd.R_lower ho1 (keep_size (w := w) (g := g) (row := none) (ks HK.out))); replace HI0 := ib HI0 hb; replace BK522 := bb BK522 hb rfl; replace BK523 := bb BK523 hb rfl; replace HK := kb HK hb; replace HB := hs HB hb; (try clear ho0 ho1 hb)) | ((with_reducible refine gd 5 rfl ?_); refine bx 5 (cs := #[.slice none 0 0, .slice none 0 0]) (t := 34) ?_; intro gb530 hg w216 hbox hb; replace HO526 := rb HO526 hb; replace HO529 := rb HO529 hb; replace HB := hs HB hb; have BK530 := Aside0.mk (hbox); have GW530 := gwk HK hg; have GE530 := gew HW0 GW530; replace HK := kb HK hb; have NB522_530 := nq BK522 hg; have NB530_522 := nq' BK522 hg; replace BK522 := bb BK522 hb rfl; have NB523_530 := nq BK523 hg; have NB530_523 := nq' BK523 hg; replace BK523 := bb BK523 hb rfl; have NB0_530 := nlt HI0 hg; have NB530_0 := nsy NB0_530; replace HI0 := ib HI0 hb; clear hb hbox hg; obtain ⟨Ao217, co217, eo217⟩ := Kd.R_slice HO526.out; subst eo217; have hnb218 := NB530_522.out; have hnc218 := NB522_530.out; have hnb219 := NB530_523.out; have hnc219 := NB523_530.out; have hnb220 := NB530_0.out; have hnc220 := NB0_530.out; obtain ⟨hcz221_0, hcz221_1⟩ := bc2 (w := w216) BK530.out; have hfz221 := blk_frozen BK530.out; obtain ⟨Ao222, co222, eo222⟩ := Kd.R_slice HO529.out; subst eo222) | ((with_reducible refine gc 120 rfl ?_); refine gl 18 Try.func120 #[.pointer (some ⟨g, 0, none⟩), .int .i64 60] ?_; (with_reducible refine (spec_l9Rd_pick.calls k g s0_0 s0_1 60 t531 t532 w0 _ ?side1 ?side2 A4.out).mono ?_); (case side1 => exact iis HI0.out); (case side2 => exact bs HB.out); rintro e w223 ⟨rfl, hi, hb, hk⟩; refine ⟨_, rfl, ?_⟩; replace BK522 := kk BK522 hk; replace BK523 := kk BK523 hk; replace HO526 := rp HO526 BK530 HI0 hk; replace HO529 := rp HO529 BK530 HI0 hk; replace BK530 := kp #[.slice Ao217 t524.length co217, .slice Ao222 t527.length co222] BK530 hk; replace HK := kt HK hk; replace HB := Aside0.mk (hb); replace HI0 := Aside0.mk (hi); (try clear hi hb hk); obtain ⟨hcz224_0, hcz224_1⟩ := bc2 (w := w223) BK530.out; have hfz224 := blk_frozen BK530.out; have hnb225 := NB523_0.out; have hnc225 := NB0_523.out; obtain ⟨hcz226_0, hcz226_1⟩ := bc2 (w := w223) BK523.out; have hfz226 := blk_frozen BK523.out))
       refine bodyPost_ret (results_cell_row rfl _ _ gb523 34 #[.slice Ao217 t524.length co217, .slice Ao222 t527.length co222] (0, 0) _ rfl (bp BK523.out rfl) Try.underlying34 rfl (by kernel_rfl)) rfl ?_
       exact ⟨_, _, eqr, Kd.Q_of_R (Kd.R_mono (rt HO526.out BK523.out (by decide)) (fun _ hk => trivial)), Kd.R_mono (rt HO529.out BK523.out (by decide)) (fun _ hk => trivial), iis HI0.out, bs HB.out, ks HK.out⟩
     ·rw [if_neg c185] at H
      have c185b0 : (t531 == 4) = false := beq_eq_false_iff_ne.mpr c185
      have c185b1 : (t531 != 4) = true := bne_iff_ne.mpr c185
      by_cases c227 : t531 = 5
      ·rw [if_pos c227] at H
       have c227b0 : (t531 == 5) = true := beq_iff_eq.mpr c227
       have c227b1 : (t531 != 5) = false := bne_eq_false_iff_eq.mpr c227
       clear c227
       have H' := Aside0.mk H
       clear H
       go_enter Try.func88, Try.ntmps88
       go_wp2_with (first | ((with_reducible refine gd 3 rfl ?_); refine bx 3 (cs := #[.slice A1_0 l1_0.length c1_0, .slice A1_1 l1_1.length c1_1]) (t := 34) ?_; intro gb522 hg w228 hbox hb; replace HB := hs HB hb; have BK522 := Aside0.mk (hbox); have GW522 := gwk HK hg; have GE522 := gew HW0 GW522; replace HK := kb HK hb; have NB0_522 := nlt HI0 hg; have NB522_0 := nsy NB0_522; replace HI0 := ib HI0 hb; clear hb hbox hg) | ((with_reducible refine gd 4 rfl ?_); refine bx 4 (cs := #[.slice none 0 0, .slice none 0 0]) (t := 34) ?_; intro gb523 hg w229 hbox hb; replace HB := hs HB hb; have BK523 := Aside0.mk (hbox); have GW523 := gwk HK hg; have GE523 := gew HW0 GW523; replace HK := kb HK hb; have NB522_523 := nq BK522 hg; have NB523_522 := nq' BK522 hg; replace BK522 := bb BK522 hb rfl; have NB0_523 := nlt HI0 hg; have NB523_0 := nsy NB0_523; replace HI0 := ib HI0 hb; clear hb hbox hg; have hnb230 := NB522_523.out; have hnc230 := NB523_522.out; have hnb231 := NB522_0.out; have hnc231 := NB0_522.out; obtain ⟨hcz232_0, hcz232_1⟩ := bc2 (w := w229) BK522.out; have hfz232 := blk_frozen BK522.out) | ((with_reducible refine gc 97 rfl ?_); refine gl 10 Try.func97 #[.agg #[.slice A1_0 l1_0.length c1_0, .slice A1_1 l1_1.length c1_1]] ?_; (with_reducible refine (spec_l2Copy.calls _ _ l1_0 _ _ l1_1 t524 t527 _ ?side1 ?side2 ?side3 ?side4 A3.out).mono ?_); (case side1 => exact Kd.C_foot_now HR1_0.out (ks HK.out)); (case side2 => exact HC1_0.out); (case side3 => exact Kd.C_foot_now HR1_1.out (ks HK.out)); (case side4 => exact HC1_1.out); rintro e w233 ⟨v525, v528, rfl, ho0, ho1, hb⟩; refine ⟨_, rfl, ?_⟩; have HO526 := Aside0.mk (Kd.R_lower ho0 (keep_size (w := w) (g := g) (row := none) (ks HK.out))); have HO529 := Aside0.mk (Kd.R_lower ho1 (keep_size (w := w) (g := g) (row := none) (ks HK.out))); replace HI0 := ib HI0 hb; replace BK522 := bb BK522 hb rfl; replace BK523 := bb BK523 hb rfl; replace HK := kb HK hb; replace HB := hs HB hb; (try clear ho0 ho1 hb)) | ((with_reducible refine gd 5 rfl ?_); refine bx 5 (cs := #[.slice none 0 0, .slice none 0 0]) (t := 34) ?_; intro gb530 hg w234 hbox hb; replace HO526 := rb HO526 hb; replace HO529 := rb HO529 hb; replace HB := hs HB hb; have BK530 := Aside0.mk (hbox); have GW530 := gwk HK hg; have GE530 := gew HW0 GW530; replace HK := kb HK hb; have NB522_530 := nq BK522 hg; have NB530_522 := nq' BK522 hg; replace BK522 := bb BK522 hb rfl; have NB523_530 := nq BK523 hg; have NB530_523 := nq' BK523 hg; replace BK523 := bb BK523 hb rfl; have NB0_530 := nlt HI0 hg; have NB530_0 := nsy NB0_530; replace HI0 := ib HI0 hb; clear hb hbox hg; obtain ⟨Ao235, co235, eo235⟩ := Kd.R_slice HO526.out; subst eo235; have hnb236 := NB530_522.out; have hnc236 := NB522_530.out; have hnb237 := NB530_523.out; have hnc237 := NB523_530.out; have hnb238 := NB530_0.out; have hnc238 := NB0_530.out; obtain ⟨hcz239_0, hcz239_1⟩ := bc2 (w := w234) BK530.out; have hfz239 := blk_frozen BK530.out; obtain ⟨Ao240, co240, eo240⟩ := Kd.R_slice HO529.out; subst eo240) | ((with_reducible refine gc 120 rfl ?_); refine gl 18 Try.func120 #[.pointer (some ⟨g, 0, none⟩), .int .i64 60] ?_; (with_reducible refine (spec_l9Rd_pick.calls k g s0_0 s0_1 60 t531 t532 w0 _ ?side1 ?side2 A4.out).mono ?_); (case side1 => exact iis HI0.out); (case side2 => exact bs HB.out); rintro e w241 ⟨rfl, hi, hb, hk⟩; refine ⟨_, rfl, ?_⟩; replace BK522 := kk BK522 hk; replace BK523 := kk BK523 hk; replace HO526 := rp HO526 BK530 HI0 hk; replace HO529 := rp HO529 BK530 HI0 hk; replace BK530 := kp #[.slice Ao235 t524.length co235, .slice Ao240 t527.length co240] BK530 hk; replace HK := kt HK hk; replace HB := Aside0.mk (hb); replace HI0 := Aside0.mk (hi); (try clear hi hb hk)))
       go_loopg [8] k (fun kq v8 w' => ∃ (x8_1 : Int) (x531000_1 : List (S36)) (x531001_1 : List (S56)) (u531000 : Value) (u531001 : Value), v8 = .int .i64 x8_1 ∧ Aside0 (spec_l2Bent.l0 kq x8_1 s0_0 t532 x531000_1 x531001_1 = some (r1, r2, r3)) ∧ Aside0 (kq ≤ k) ∧ Aside0 (Kd.R k36 36 w' w.heap.size (fun _ => True) u531000 x531000_1) ∧ Aside0 (Kd.R k56 56 w' w.heap.size (fun _ => True) u531001 x531001_1) ∧ Aside0 (w'.heap[gb522]? = some (.cells #[(.slice A1_0 l1_0.length c1_0), (.slice A1_1 l1_1.length c1_1)] 34 (0, 0))) ∧ Aside0 (w'.heap[gb523]? = some (.cells #[(.slice none 0 0), (.slice none 0 0)] 34 (0, 0))) ∧ Aside0 (w'.heap[gb530]? = some (.cells #[u531000, u531001] 34 (0, 0))) ∧ Aside0 (IsS126 w0 w' g s0_0 t532) ∧ Aside0 (KeepBut w w' g none) ∧ Aside0 (Below w0.heap.size w0 w'))
       case atStart => exact ⟨(30), (t524), (t527), (.slice Ao235 t524.length co235), (.slice Ao240 t527.length co240), eqs, H', ⟨Nat.le_refl _⟩, ⟨rl HO526.out⟩, ⟨rl HO529.out⟩, ⟨bf BK522.out⟩, ⟨bf BK523.out⟩, ⟨bf BK530.out⟩, ⟨iis HI0.out⟩, ⟨ks HK.out⟩, ⟨bs HB.out⟩⟩
       case round =>
        clear H'
        try clear c1
        try clear p1
        try clear q1
        try clear hx1
        try clear c2
        try clear p2
        try clear p5
        try clear q5
        try clear hx5
        try clear qi5
        try clear c8
        try clear c9
        try clear c11
        try clear c12
        try clear c13
        try clear c14
        try clear p14
        try clear q14
        try clear hx14
        try clear hf14
        try clear c16
        try clear c17
        try clear c18
        try clear c19
        try clear c20
        try clear c21
        try clear c22
        try clear c23
        try clear p55
        try clear q55
        try clear hx55
        try clear qi55
        try clear c88
        try clear c97
        try clear c119
        try clear c120
        try clear c135
        try clear c135b0
        try clear c135b1
        try clear c136
        try clear c136b0
        try clear c136b1
        try clear c139
        try clear c140
        try clear c141
        try clear p141
        try clear q141
        try clear hx141
        try clear hf141
        try clear c163
        try clear c166
        try clear c170
        try clear c171
        try clear c176
        try clear c177
        try clear c178
        try clear c183
        try clear c185
        try clear c185b0
        try clear c185b1
        try clear c186
        try clear c186b0
        try clear c186b1
        try clear c187
        try clear c187b0
        try clear c187b1
        try clear c188
        try clear c191
        try clear c192
        try clear c197
        try clear c198
        try clear c199
        try clear c208
        try clear c212
        try clear c213
        try clear c218
        try clear c219
        try clear c220
        try clear c225
        try clear c227
        try clear c227b0
        try clear c227b1
        try clear c230
        try clear c231
        try clear c236
        try clear c237
        try clear c238
        try clear hcz165_0 hcz165_1
        try clear hcz167_0 hcz167_1
        try clear hcz172_0 hcz172_1
        try clear hcz179_0 hcz179_1
        try clear hcz182_0 hcz182_1
        try clear hcz184_0 hcz184_1
        try clear hcz193_0 hcz193_1
        try clear hcz200_0 hcz200_1
        try clear hcz207_0 hcz207_1
        try clear hcz209_0 hcz209_1
        try clear hcz214_0 hcz214_1
        try clear hcz221_0 hcz221_1
        try clear hcz224_0 hcz224_1
        try clear hcz226_0 hcz226_1
        try clear hcz232_0 hcz232_1
        try clear hcz239_0 hcz239_1
        try clear hfz165
        try clear hfz167
        try clear hfz172
        try clear hfz179
        try clear hfz182
        try clear hfz184
        try clear hfz193
        try clear hfz200
        try clear hfz207
        try clear hfz209
        try clear hfz214
        try clear hfz221
        try clear hfz224
        try clear hfz226
        try clear hfz232
        try clear hfz239
        try clear hx141_0
        try clear hx141_1
        try clear hx141_2
        try clear hx141_3
        try clear hx141_4
        try clear hx556_0
        try clear hx556_1
        try clear hx556_2
        try clear hx556_3
        try clear hx556_4
        try clear p141
        try clear p556
        try clear q141
        try clear q556
        obtain ⟨x8_1, x531000_1, x531001_1, u531000, u531001, rfl, HA, HK1, HO_531000, HO_531001, BK522, BK523, BK530, HI0, HK, HB⟩ := hrel
        cases gk with
        | zero => exact absurd HA.out (by simp [spec_l2Bent.l0])
        | succ k1 =>
         have H := HA.out
         clear HA
         simp only [spec_l2Bent.l0] at H
         by_cases c242 : x8_1 < 36
         ·rw [if_pos c242] at H
          have c242b0 : decide (x8_1 < 36) = true := decide_eq_true c242
          clear c242
          replace H := Option.bind_eq_some_iff.mp H
          obtain ⟨⟨t560, t563⟩, A2430, H⟩ := H
          try dsimp -simprocs only at H
          have A243 := Aside0.mk A2430
          clear A2430
          have H' := Aside0.mk H
          clear H
          have hnb244 := NB530_522.out
          have hnc244 := NB522_530.out
          have hnb245 := NB530_523.out
          have hnc245 := NB523_530.out
          have hnb246 := NB530_0.out
          have hnc246 := NB0_530.out
          obtain ⟨hcz247_0, hcz247_1⟩ := bc2 (w := wr) BK530.out
          have hfz247 := blk_frozen BK530.out
          obtain ⟨Ao248, co248, eo248⟩ := Kd.R_slice HO_531000.out
          subst eo248
          obtain ⟨Ao249, co249, eo249⟩ := Kd.R_slice HO_531001.out
          subst eo249
          go_wp2_with (first | ((with_reducible refine gc 109 rfl ?_); refine gl 90 Try.func109 #[.agg #[.slice Ao248 x531000_1.length co248, .slice Ao249 x531001_1.length co249], .agg #[.int .i64 5, .int .i64 x8_1]] ?_; (with_reducible refine (spec_l2PutNode.calls k1 (fun k_ => some k_ = (.slice Ao248 x531000_1.length co248 : Value).ownBlock) (.slice Ao248 x531000_1.length co248) x531000_1 (fun k_ => some k_ = (.slice Ao249 x531001_1.length co249 : Value).ownBlock) (.slice Ao249 x531001_1.length co249) x531001_1 5 x8_1 t560 t563 w0 _ ?side1 ?side2 ?side3 A243.out).mono ?_); (case side1 => exact bs HB.out); (case side2 => exact Kd.R_lower (Kd.R_tight rfl HO_531000.out) HL.out); (case side3 => exact Kd.R_lower (Kd.R_tight rfl HO_531001.out) HL.out); rintro e w250 ⟨v561, v564, rfl, ho0, ho1, hb, hkp⟩; refine ⟨_, rfl, ?_⟩; replace BK522 := Aside0.mk (blk_kept (bf BK522.out) hkp (fun hs_ => Or.elim hs_ (fun e_ => (fun e_ => (Kd.R_ne HO_531000.out BK522.out (by decide)) e_) e_) (fun e_ => (fun e_ => (Kd.R_ne HO_531001.out BK522.out (by decide)) e_) e_))); replace BK523 := Aside0.mk (blk_kept (bf BK523.out) hkp (fun hs_ => Or.elim hs_ (fun e_ => (fun e_ => (Kd.R_ne HO_531000.out BK523.out (by decide)) e_) e_) (fun e_ => (fun e_ => (Kd.R_ne HO_531001.out BK523.out (by decide)) e_) e_))); replace BK530 := Aside0.mk (blk_kept (bf BK530.out) hkp (fun hs_ => Or.elim hs_ (fun e_ => (fun e_ => (Kd.R_ne HO_531000.out BK530.out (by decide)) e_) e_) (fun e_ => (fun e_ => (Kd.R_ne HO_531001.out BK530.out (by decide)) e_) e_))); replace HI0 := Aside0.mk (IsS126.kept (iis HI0.out) hkp (fun hs_ => Or.elim hs_ (fun e_ => (fun e_ => (IsS126.own_ne HI0.out HO_531000.out (by decide)) e_) e_) (fun e_ => (fun e_ => (IsS126.own_ne HI0.out HO_531001.out (by decide)) e_) e_))); have HO562 := Aside0.mk (Kd.R_mono (ok' := fun k_ => True) (Kd.R_raise (d := k36) (b := w0.heap.size) (b' := w.heap.size) (fun _ _ _ _ h_ => h_) ho0 (fun k_ e_ => Or.elim (ho0.1 k_ e_) (fun hs_ => Or.elim hs_ (fun e_ => (fun e_ => Kd.R_base HO_531000.out k_ e_.symm) e_) (fun e_ => (fun e_ => Kd.R_base HO_531001.out k_ e_.symm) e_)) (fun hn_ => Nat.le_trans (keep_size (w := w) (g := g) (row := none) (ks HK.out)) hn_))) (fun k_ hk_ => trivial)); have HO565 := Aside0.mk (Kd.R_mono (ok' := fun k_ => True) (Kd.R_raise (d := k56) (b := w0.heap.size) (b' := w.heap.size) (fun _ _ _ _ h_ => h_) ho1 (fun k_ e_ => Or.elim (ho1.1 k_ e_) (fun hs_ => Or.elim hs_ (fun e_ => (fun e_ => Kd.R_base HO_531000.out k_ e_.symm) e_) (fun e_ => (fun e_ => Kd.R_base HO_531001.out k_ e_.symm) e_)) (fun hn_ => Nat.le_trans (keep_size (w := w) (g := g) (row := none) (ks HK.out)) hn_))) (fun k_ hk_ => trivial)); replace HK := Aside0.mk (Kept.keepG (ks HK.out) hkp (fun k_ hs_ => Or.elim hs_ (fun e_ => (fun e_ => .inr (Kd.R_base HO_531000.out k_ e_.symm)) e_) (fun e_ => (fun e_ => .inr (Kd.R_base HO_531001.out k_ e_.symm)) e_))); replace HB := Aside0.mk (hb); clear HO_531000 HO_531001; (try clear ho0 ho1 hb hkp); obtain ⟨Ao251, co251, eo251⟩ := Kd.R_slice HO562.out; subst eo251; obtain ⟨hcz252_0, hcz252_1⟩ := bc2 (w := w250) BK530.out; have hfz252 := blk_frozen BK530.out; obtain ⟨Ao253, co253, eo253⟩ := Kd.R_slice HO565.out; subst eo253))
          go_roundg k1
          case measure => have := HK1.out; omega
          case rel => exact ⟨(wrap64 (x8_1 + 1)), (t560), (t563), (.slice Ao251 t560.length co251), (.slice Ao253 t563.length co253), eqs, H', ⟨by have := HK1.out; omega⟩, ⟨Kd.R_mono (rt HO562.out BK530.out (by decide)) (fun _ hk => trivial)⟩, ⟨Kd.R_mono (rt HO565.out BK530.out (by decide)) (fun _ hk => trivial)⟩, ⟨bf BK522.out⟩, ⟨bf BK523.out⟩, ⟨by (with_reducible repeat (first | refine blk_drewN ?_ _ | refine blk_drew ?_ | refine blk_alloc ?_ _)); refine blk_put (cs := #[.slice Ao251 t560.length co251, .slice Ao249 x531001_1.length co249]) ?_ 1 _ rfl; (with_reducible repeat (first | refine blk_drewN ?_ _ | refine blk_drew ?_ | refine blk_alloc ?_ _)); refine blk_put (cs := #[.slice Ao248 x531000_1.length co248, .slice Ao249 x531001_1.length co249]) ?_ 0 _ rfl; exact bf BK530.out⟩, ⟨iis HI0.out⟩, ⟨ks HK.out⟩, ⟨bs HB.out⟩⟩
         ·rw [if_neg c242] at H
          have c242b0 : decide (x8_1 < 36) = false := decide_eq_false c242
          clear c242
          simp only [Option.some.injEq, Prod.mk.injEq] at H
          obtain ⟨rfl, rfl, rfl⟩ := H
          have hnb254 := NB530_522.out
          have hnc254 := NB522_530.out
          have hnb255 := NB530_523.out
          have hnc255 := NB523_530.out
          have hnb256 := NB530_0.out
          have hnc256 := NB0_530.out
          obtain ⟨hcz257_0, hcz257_1⟩ := bc2 (w := wr) BK530.out
          have hfz257 := blk_frozen BK530.out
          obtain ⟨Ao258, co258, eo258⟩ := Kd.R_slice HO_531000.out
          subst eo258
          have hnb259 := NB523_522.out
          have hnc259 := NB522_523.out
          have hnb260 := NB523_0.out
          have hnc260 := NB0_523.out
          obtain ⟨hcz261_0, hcz261_1⟩ := bc2 (w := wr) BK523.out
          have hfz261 := blk_frozen BK523.out
          obtain ⟨Ao262, co262, eo262⟩ := Kd.R_slice HO_531001.out
          subst eo262
          go_wp2
          refine bodyPost_ret (results_cell_row rfl _ _ gb523 34 #[.slice Ao258 x531000_1.length co258, .slice Ao262 x531001_1.length co262] (0, 0) _ rfl (bp BK523.out rfl) Try.underlying34 rfl (by kernel_rfl)) rfl ?_
          exact ⟨_, _, eqr, Kd.Q_of_R (Kd.R_mono (rt HO_531000.out BK523.out (by decide)) (fun _ hk => trivial)), Kd.R_mono (rt HO_531001.out BK523.out (by decide)) (fun _ hk => trivial), iis HI0.out, bs HB.out, ks HK.out⟩
      ·rw [if_neg c227] at H
       have c227b0 : (t531 == 5) = false := beq_eq_false_iff_ne.mpr c227
       have c227b1 : (t531 != 5) = true := bne_iff_ne.mpr c227
       simp only [Option.some.injEq, Prod.mk.injEq] at H
       obtain ⟨rfl, rfl, rfl⟩ := H
       go_enter Try.func88, Try.ntmps88
       go_wp2_with (first | ((with_reducible refine gd 3 rfl ?_); refine bx 3 (cs := #[.slice A1_0 l1_0.length c1_0, .slice A1_1 l1_1.length c1_1]) (t := 34) ?_; intro gb522 hg w263 hbox hb; replace HB := hs HB hb; have BK522 := Aside0.mk (hbox); have GW522 := gwk HK hg; have GE522 := gew HW0 GW522; replace HK := kb HK hb; have NB0_522 := nlt HI0 hg; have NB522_0 := nsy NB0_522; replace HI0 := ib HI0 hb; clear hb hbox hg) | ((with_reducible refine gd 4 rfl ?_); refine bx 4 (cs := #[.slice none 0 0, .slice none 0 0]) (t := 34) ?_; intro gb523 hg w264 hbox hb; replace HB := hs HB hb; have BK523 := Aside0.mk (hbox); have GW523 := gwk HK hg; have GE523 := gew HW0 GW523; replace HK := kb HK hb; have NB522_523 := nq BK522 hg; have NB523_522 := nq' BK522 hg; replace BK522 := bb BK522 hb rfl; have NB0_523 := nlt HI0 hg; have NB523_0 := nsy NB0_523; replace HI0 := ib HI0 hb; clear hb hbox hg; have hnb265 := NB522_523.out; have hnc265 := NB523_522.out; have hnb266 := NB522_0.out; have hnc266 := NB0_522.out; obtain ⟨hcz267_0, hcz267_1⟩ := bc2 (w := w264) BK522.out; have hfz267 := blk_frozen BK522.out) | ((with_reducible refine gc 97 rfl ?_); refine gl 10 Try.func97 #[.agg #[.slice A1_0 l1_0.length c1_0, .slice A1_1 l1_1.length c1_1]] ?_; (with_reducible refine (spec_l2Copy.calls _ _ l1_0 _ _ l1_1 t524 t527 _ ?side1 ?side2 ?side3 ?side4 A3.out).mono ?_); (case side1 => exact Kd.C_foot_now HR1_0.out (ks HK.out)); (case side2 => exact HC1_0.out); (case side3 => exact Kd.C_foot_now HR1_1.out (ks HK.out)); (case side4 => exact HC1_1.out); rintro e w268 ⟨v525, v528, rfl, ho0, ho1, hb⟩; refine ⟨_, rfl, ?_⟩; have HO526 := Aside0.mk (Kd.R_lower ho0 (keep_size (w := w) (g := g) (row := none) (ks HK.out))); have HO529 := Aside0.mk (Kd.R_lower ho1 (keep_size (w := w) (g := g) (row := none) (ks HK.out))); replace HI0 := ib HI0 hb; replace BK522 := bb BK522 hb rfl; replace BK523 := bb BK523 hb rfl; replace HK := kb HK hb; replace HB := hs HB hb; (try clear ho0 ho1 hb)) | ((with_reducible refine gd 5 rfl ?_); refine bx 5 (cs := #[.slice none 0 0, .slice none 0 0]) (t := 34) ?_; intro gb530 hg w269 hbox hb; replace HO526 := rb HO526 hb; replace HO529 := rb HO529 hb; replace HB := hs HB hb; have BK530 := Aside0.mk (hbox); have GW530 := gwk HK hg; have GE530 := gew HW0 GW530; replace HK := kb HK hb; have NB522_530 := nq BK522 hg; have NB530_522 := nq' BK522 hg; replace BK522 := bb BK522 hb rfl; have NB523_530 := nq BK523 hg; have NB530_523 := nq' BK523 hg; replace BK523 := bb BK523 hb rfl; have NB0_530 := nlt HI0 hg; have NB530_0 := nsy NB0_530; replace HI0 := ib HI0 hb; clear hb hbox hg; obtain ⟨Ao270, co270, eo270⟩ := Kd.R_slice HO526.out; subst eo270; have hnb271 := NB530_522.out; have hnc271 := NB522_530.out; have hnb272 := NB530_523.out; have hnc272 := NB523_530.out; have hnb273 := NB530_0.out; have hnc273 := NB0_530.out; obtain ⟨hcz274_0, hcz274_1⟩ := bc2 (w := w269) BK530.out; have hfz274 := blk_frozen BK530.out; obtain ⟨Ao275, co275, eo275⟩ := Kd.R_slice HO529.out; subst eo275) | ((with_reducible refine gc 120 rfl ?_); refine gl 18 Try.func120 #[.pointer (some ⟨g, 0, none⟩), .int .i64 60] ?_; (with_reducible refine (spec_l9Rd_pick.calls k g s0_0 s0_1 60 t531 t532 w0 _ ?side1 ?side2 A4.out).mono ?_); (case side1 => exact iis HI0.out); (case side2 => exact bs HB.out); rintro e w276 ⟨rfl, hi, hb, hk⟩; refine ⟨_, rfl, ?_⟩; replace BK522 := kk BK522 hk; replace BK523 := kk BK523 hk; replace HO526 := rp HO526 BK530 HI0 hk; replace HO529 := rp HO529 BK530 HI0 hk; replace BK530 := kp #[.slice Ao270 t524.length co270, .slice Ao275 t527.length co275] BK530 hk; replace HK := kt HK hk; replace HB := Aside0.mk (hb); replace HI0 := Aside0.mk (hi); (try clear hi hb hk); obtain ⟨hcz277_0, hcz277_1⟩ := bc2 (w := w276) BK530.out; have hfz277 := blk_frozen BK530.out; have hnb278 := NB523_0.out; have hnc278 := NB0_523.out; obtain ⟨hcz279_0, hcz279_1⟩ := bc2 (w := w276) BK523.out; have hfz279 := blk_frozen BK523.out))
       refine bodyPost_ret (results_cell_row rfl _ _ gb523 34 #[.slice Ao270 t524.length co270, .slice Ao275 t527.length co275] (0, 0) _ rfl (bp BK523.out rfl) Try.underlying34 rfl (by kernel_rfl)) rfl ?_
       exact ⟨_, _, eqr, Kd.Q_of_R (Kd.R_mono (rt HO526.out BK523.out (by decide)) (fun _ hk => trivial)), Kd.R_mono (rt HO529.out BK523.out (by decide)) (fun _ hk => trivial), iis HI0.out, bs HB.out, ks HK.out⟩

end Go.Proofs.Ytohmemckdogljaa.QFnGraphView
