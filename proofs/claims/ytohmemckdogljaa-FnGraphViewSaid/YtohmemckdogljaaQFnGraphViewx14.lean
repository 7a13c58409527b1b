/- Contracts of the Go functions that this law reaches: each does what its plain Lean function says. No condition. -/
import Derived.Test.YtohmemckdogljaaQFnGraphViewx0
import Derived.Test.YtohmemckdogljaaQFnGraphViewx2
import Derived.Test.YtohmemckdogljaaQFnGraphViewx3
namespace Go.Proofs.Ytohmemckdogljaa.QFnGraphView
open Go.RowKit Go.Proofs.YtohmemckdogljaaW.PrintWords Go.Proofs.YtohmemckdogljaaW.PrintLast Go.Proofs.YtohmemckdogljaaW.PrintMore Go.Proofs.Ytohmemckdogljaa.Bl
attribute [local go_sem] max2_int min2_int max_two min_two max_three min_three max_four min_four   -- for this text's walks alone
set_option linter.unusedVariables false
set_option linter.unusedSimpArgs false
set_option maxHeartbeats 8000000
set_option maxRecDepth 100000

attribute [local go_sem high] eqA56
/-! ### spec_l2PutEdge: function 124 -/
def spec_l2PutEdge.l0 : Nat → Int → List (S36) → List (S56) → Int → Int → Int → Int → Int → Option ((List (S36)) × (List (S56)))
 | 0, _, _, _, _, _, _, _, _ => none
 | k + 1, x5, x378000, x378001, x379000, x379001, x379002, x379003, x379004 => if x5 < (x378001.length : Int) then (if 0 ≤ x5 then ((spec_l2Less.f ((rd_T56 x378001 x5).f0) ((rd_T56 x378001 x5).f1.f0) ((rd_T56 x378001 x5).f1.f1) ((rd_T56 x378001 x5).f2.f0) ((rd_T56 x378001 x5).f2.f1) x379000 x379001 x379002 x379003 x379004).bind fun t381 => (if t381 = true then (spec_l2PutEdge.l0 k (wrap64 (x5 + 1)) x378000 x378001 x379000 x379001 x379002 x379003 x379004) else ((some (([] : List (S56)) : List (S56))).bind fun y382 => (if x5 ≤ (x378001.length : Int) then ((some (x378001.drop (x5 : Int).toNat : List (S56))).bind fun y385 => (if y382.length + y385.length < 3518437208883 then ((some (y382 ++ y385 : List (S56))).bind fun y389 => ((some (x378001.take (x5 : Int).toNat : List (S56))).bind fun y392 => (if y392.length < 3518437208883 then ((some (y392 ++ [(⟨x379000, (⟨x379001, x379002⟩ : S36), (⟨x379003, x379004⟩ : S36)⟩ : S56)] : List (S56))).bind fun y395 => (if y395.length + y389.length < 3518437208883 then (some (x378000, (y395 ++ y389))) else (none))) else (none)))) else (none))) else (none))))) else (none)) else ((some (([] : List (S56)) : List (S56))).bind fun y401 => (if 0 ≤ x5 then (if x5 ≤ (x378001.length : Int) then ((some (x378001.drop (x5 : Int).toNat : List (S56))).bind fun y404 => (if y401.length + y404.length < 3518437208883 then ((some (y401 ++ y404 : List (S56))).bind fun y408 => ((some (x378001.take (x5 : Int).toNat : List (S56))).bind fun y411 => (if y411.length < 3518437208883 then ((some (y411 ++ [(⟨x379000, (⟨x379001, x379002⟩ : S36), (⟨x379003, x379004⟩ : S36)⟩ : S56)] : List (S56))).bind fun y414 => (if y414.length + y408.length < 3518437208883 then (some (x378000, (y414 ++ y408))) else (none))) else (none)))) else (none))) else (none)) else (none)))
def spec_l2PutEdge.f (k : Nat) (l0_0 : List (S36)) (l0_1 : List (S56)) (a1_0 : Int) (a1_1 : Int) (a1_2 : Int) (a1_3 : Int) (a1_4 : Int) : Option ((List (S36)) × (List (S56))) := spec_l2PutEdge.l0 k 0 l0_0 l0_1 a1_0 a1_1 a1_2 a1_3 a1_4
def spec_l2PutEdge.T2 : Bool × List (List Nat × List Nat) := (true, [([], []), ([], []), ([1], [1]), ([2], [2]), ([0, 3], [0, 3]), ([4], [4]), ([5], [5]), ([6, 5], [5, 6]), ([5], [5]), ([7, 8, 5], [5, 7, 8]), ([9, 5], [5, 9]), ([5], [5]), ([10, 11, 5, 5], [5, 10, 11]), ([5, 12], [5, 12])])
def spec_l2PutEdge.B2 : List Nat := [0, 0, 2, 6, 15, 31, 63, 127, 63, 511, 1023, 63, 4095, 8191]
theorem spec_l2PutEdge.tab2 : rtab .any (opsOf Try.f124 2) = spec_l2PutEdge.T2 := by kernel_rfl
theorem spec_l2PutEdge.bits2 : waitsOk spec_l2PutEdge.T2.2 spec_l2PutEdge.B2 = true := by kernel_rfl
def spec_l2PutEdge.T5 : Bool × List (List Nat × List Nat) := (true, [([], []), ([0], [0]), ([], []), ([1, 2], [1, 2]), ([], []), ([4], [4]), ([3, 5], [3, 5]), ([], []), ([6, 7, 6], [6, 7]), ([0, 1, 2, 3, 4, 5, 6, 7, 8], []), ([9, 8, 8, 0, 1, 2, 3, 4, 5, 6, 7, 8], [8, 9])])
def spec_l2PutEdge.B5 : List Nat := [0, 1, 0, 7, 0, 16, 63, 0, 255, 511, 1023]
theorem spec_l2PutEdge.tab5 : rtab .any (opsOf Try.f124 5) = spec_l2PutEdge.T5 := by kernel_rfl
theorem spec_l2PutEdge.bits5 : waitsOk spec_l2PutEdge.T5.2 spec_l2PutEdge.B5 = true := by kernel_rfl
theorem spec_l2PutEdge.calls (k : Nat) (P0_0_ : Nat → Prop) (u9000_ : Value) (l0_0 : List (S36)) (P0_1_ : Nat → Prop) (u9001_ : Value) (l0_1 : List (S56)) (a1_0 : Int) (a1_1 : Int) (a1_2 : Int) (a1_3 : Int) (a1_4 : Int) (r1 : List (S36)) (r2 : List (S56)) (w0 w : World) (hB : Below w0.heap.size w0 w) (ho0_0 : Kd.R k36 36 w w0.heap.size P0_0_ u9000_ l0_0) (ho0_1 : Kd.R k56 56 w w0.heap.size P0_1_ u9001_ l0_1) (h : spec_l2PutEdge.f k l0_0 l0_1 a1_0 a1_1 a1_2 a1_3 a1_4 = some (r1, r2)) :
  Calls Try.prog 124 #[.agg #[u9000_, u9001_], .agg #[.int .i64 a1_0, .int .i64 a1_1, .int .i64 a1_2, .int .i64 a1_3, .int .i64 a1_4]] w fun e w' => ∃ v0_ v1_ : Value, e = .returned (.agg #[v0_, v1_]) ∧ Kd.R k36 36 w' w0.heap.size (fun k_ => ((P0_0_ k_ ∨ P0_1_ k_) ∨ w.heap.size ≤ k_)) v0_ r1 ∧ Kd.R k56 56 w' w0.heap.size (fun k_ => ((P0_0_ k_ ∨ P0_1_ k_) ∨ w.heap.size ≤ k_)) v1_ r2 ∧ Below w0.heap.size w0 w' ∧ Kept w w' (fun k_ => P0_0_ k_ ∨ P0_1_ k_) := by
 have hu34 := Try.underlying34
 have hu56 := Try.underlying56
 have HO0_0 := Aside0.mk (show Kd.R k36 36 w w0.heap.size (fun k_ => ((P0_0_ k_ ∨ P0_1_ k_) ∨ w.heap.size ≤ k_)) u9000_ l0_0 from Kd.R_mono ho0_0 (fun k_ hk => (.inl (.inl hk))))
 have HO0_1 := Aside0.mk (show Kd.R k56 56 w w0.heap.size (fun k_ => ((P0_0_ k_ ∨ P0_1_ k_) ∨ w.heap.size ≤ k_)) u9001_ l0_1 from Kd.R_mono ho0_1 (fun k_ hk => (.inl (.inr hk))))
 have HK := Aside0.mk (Kept.refl w (fun k_ => P0_0_ k_ ∨ P0_1_ k_))
 have HW0 := Aside0.mk hB.size
 have HB := Aside0.mk hB
 clear hB
 have H := h; unfold spec_l2PutEdge.f at H
 clear h
 have H' := Aside0.mk H
 clear H
 obtain ⟨Ao3, co3, eo3⟩ := Kd.R_slice HO0_0.out
 subst eo3
 obtain ⟨Ao4, co4, eo4⟩ := Kd.R_slice HO0_1.out
 subst eo4
 go_enter Try.func124, Try.ntmps124
 go_wp2_with (first | ((with_reducible refine gd 2 rfl ?_); refine bx 2 (cs := #[.slice Ao3 l0_0.length co3, .slice Ao4 l0_1.length co4]) (t := 34) ?_; intro gb377 hg w5 hbox hb; replace HO0_0 := rb HO0_0 hb; replace HO0_1 := rb HO0_1 hb; have BK377 := Aside0.mk (hbox); have GW377 := Ge.mk ((by rw [hg]; exact (by first | exact HK.out.1 | exact (show Kept w _ (fun k_ => P0_0_ k_ ∨ P0_1_ k_) from ts HK.out).1) : w.heap.size ≤ gb377)); replace HK := kl HK hb; have GE377 := gwb HB hg; replace HB := hs HB hb; clear hb hbox hg) | ((with_reducible refine gd 3 rfl ?_); refine bx 3 (cs := #[.int .i64 a1_0, .int .i64 a1_1, .int .i64 a1_2, .int .i64 a1_3, .int .i64 a1_4]) (t := 56) ?_; intro gb378 hg w6 hbox hb; replace HO0_0 := rb HO0_0 hb; replace HO0_1 := Aside0.mk (Kd.R_below (Kd.R_elderB (rl HO0_1.out) gb378 (Nat.le_of_eq hg.symm)) hb); have BK378 := Aside0.mk (hbox); have GW378 := Ge.mk ((by rw [hg]; exact (by first | exact HK.out.1 | exact (show Kept w _ (fun k_ => P0_0_ k_ ∨ P0_1_ k_) from ts HK.out).1) : w.heap.size ≤ gb378)); replace HK := kl HK hb; have GE378 := gwb HB hg; replace HB := hs HB hb; have NB377_378 := nq BK377 hg; have NB378_377 := nq' BK377 hg; replace BK377 := bb BK377 hb rfl; clear hb hbox hg) | ((with_reducible refine gd 4 rfl ?_); refine bx 4 (cs := #[.slice none 0 0, .slice none 0 0]) (t := 34) ?_; intro gb379 hg w7 hbox hb; replace HO0_0 := rb HO0_0 hb; replace HO0_1 := rb HO0_1 hb; have BK379 := Aside0.mk (hbox); have GW379 := Ge.mk ((by rw [hg]; exact (by first | exact HK.out.1 | exact (show Kept w _ (fun k_ => P0_0_ k_ ∨ P0_1_ k_) from ts HK.out).1) : w.heap.size ≤ gb379)); replace HK := kl HK hb; have GE379 := gwb HB hg; replace HB := hs HB hb; have NB377_379 := nq BK377 hg; have NB379_377 := nq' BK377 hg; replace BK377 := bb BK377 hb rfl; have NB378_379 := nq BK378 hg; have NB379_378 := nq' BK378 hg; replace BK378 := bb BK378 hb rfl; clear hb hbox hg))
 go_loopg [5] k (fun kq v5 w' => ∃ (x5_1 : Int), v5 = .int .i64 x5_1 ∧ Aside0 (spec_l2PutEdge.l0 kq x5_1 l0_0 l0_1 a1_0 a1_1 a1_2 a1_3 a1_4 = some (r1, r2)) ∧ Aside0 (kq ≤ k) ∧ Aside0 (Kd.R k36 36 w' w0.heap.size (fun k_ => ((P0_0_ k_ ∨ P0_1_ k_) ∨ w.heap.size ≤ k_)) (.slice Ao3 l0_0.length co3) l0_0) ∧ Aside0 (Kd.R k56 56 w' w0.heap.size (fun k_ => ((P0_0_ k_ ∨ P0_1_ k_) ∨ w.heap.size ≤ k_) ∧ k_ ≠ gb378) (.slice Ao4 l0_1.length co4) l0_1) ∧ Aside0 (w'.heap[gb377]? = some (.cells #[(.slice Ao3 l0_0.length co3), (.slice Ao4 l0_1.length co4)] 34 (0, 0))) ∧ Aside0 (w'.heap[gb378]? = some (.cells #[.int .i64 a1_0, .int .i64 a1_1, .int .i64 a1_2, .int .i64 a1_3, .int .i64 a1_4] 56 (0, 0))) ∧ Aside0 (w'.heap[gb379]? = some (.cells #[(.slice none 0 0), (.slice none 0 0)] 34 (0, 0))) ∧ Aside0 (Kept w w' (fun k_ => P0_0_ k_ ∨ P0_1_ k_)) ∧ Aside0 (Below w0.heap.size w0 w'))
 case atStart => exact ⟨(0), eqs, H', ⟨Nat.le_refl _⟩, ⟨rl HO0_0.out⟩, ⟨rl HO0_1.out⟩, ⟨bf BK377.out⟩, ⟨bf BK378.out⟩, ⟨bf BK379.out⟩, ⟨ts HK.out⟩, ⟨bs HB.out⟩⟩
 case round =>
  clear H'
  try clear c1
  try clear p2
  obtain ⟨x5_1, rfl, HA, HK1, HO_378000, HO_378001, BK377, BK378, BK379, HK, HB⟩ := hrel
  cases gk with
  | zero => exact absurd HA.out (by simp [spec_l2PutEdge.l0])
  | succ k1 =>
   have H := HA.out
   clear HA
   simp only [spec_l2PutEdge.l0] at H
   by_cases c8 : x5_1 < (l0_1.length : Int)
   ·rw [if_pos c8] at H
    have c8b0 : decide (x5_1 < (l0_1.length : Int)) = true := decide_eq_true c8
    clear c8
    by_cases c9 : 0 ≤ x5_1
    ·rw [if_pos c9] at H
     have c9b0 : decide (0 ≤ x5_1) = true := decide_eq_true c9
     clear c9
     replace H := Option.bind_eq_some_iff.mp H
     obtain ⟨t381, A100, H⟩ := H
     try dsimp -simprocs only at H
     have A10 := Aside0.mk A100
     clear A100
     by_cases c11 : t381 = true
     ·subst c11
      have H1 : (spec_l2PutEdge.l0 k1 (wrap64 (x5_1 + 1)) l0_0 l0_1 a1_0 a1_1 a1_2 a1_3 a1_4) = some (r1, r2) := by rw [if_pos rfl] at H; exact H
      clear H
      have H := H1
      clear H1
      have H' := Aside0.mk H
      clear H
      try go_wp2
      replace HO_378000 := rd_ HO_378000
      replace HO_378001 := rd_ HO_378001
      replace BK377 := bd BK377
      replace BK378 := bd BK378
      replace BK379 := bd BK379
      replace HK := Aside0.mk (Kept.drew HK.out)
      replace HB := hd HB
      have p380 : 0 ≤ (x5_1 : Int) := oda
      have q380 : x5_1 < (l0_1.length : Int) := oda
      obtain ⟨ad380, e380, hx380_0, hx380_1, hx380_2, hx380_3, hx380_4⟩ := at_T56 (Kd.R_reads' HO_378001.out).2.2 x5_1 p380 q380
      cases e380
      replace p380 := eq_true p380
      replace q380 := eq_true q380
      refine start_ (n := 14) (S := fun w' => w'.cell? ⟨gb377, 0, none⟩ = some (.slice Ao3 l0_0.length co3) ∧ w'.cell? ⟨gb377, 1, none⟩ = some (.slice (some ad380) l0_1.length co4) ∧ w'.cell? ⟨gb378, 0, none⟩ = some (.int .i64 a1_0) ∧ w'.cell? ⟨gb378, 1, none⟩ = some (.int .i64 a1_1) ∧ w'.cell? ⟨gb378, 2, none⟩ = some (.int .i64 a1_2) ∧ w'.cell? ⟨gb378, 3, none⟩ = some (.int .i64 a1_3) ∧ w'.cell? ⟨gb378, 4, none⟩ = some (.int .i64 a1_4) ∧ w'.cell? (ad380.add ((x5_1).toNat * 5)) = some (.int .i64 ((rd_T56 l0_1 x5_1).f0)) ∧ w'.cell? ⟨(ad380.add ((x5_1).toNat * 5)).block, (ad380.add ((x5_1).toNat * 5)).off + 1, none⟩ = some (.int .i64 ((rd_T56 l0_1 x5_1).f1.f0)) ∧ w'.cell? ⟨(ad380.add ((x5_1).toNat * 5)).block, (ad380.add ((x5_1).toNat * 5)).off + 2, none⟩ = some (.int .i64 ((rd_T56 l0_1 x5_1).f1.f1)) ∧ w'.cell? ⟨(ad380.add ((x5_1).toNat * 5)).block, (ad380.add ((x5_1).toNat * 5)).off + 3, none⟩ = some (.int .i64 ((rd_T56 l0_1 x5_1).f2.f0)) ∧ w'.cell? ⟨(ad380.add ((x5_1).toNat * 5)).block, (ad380.add ((x5_1).toNat * 5)).off + 4, none⟩ = some (.int .i64 ((rd_T56 l0_1 x5_1).f2.f1))) (ds := []) #[false, false, false, false, false, false, false, false, false, false, false, false, false, false] (by kernel_rfl) rfl rfl ⟨(blk_cell BK377.out 0).trans rfl, (blk_cell BK377.out 1).trans rfl, (blk_cell BK378.out 0).trans rfl, (blk_cell BK378.out 1).trans rfl, (blk_cell BK378.out 2).trans rfl, (blk_cell BK378.out 3).trans rfl, (blk_cell BK378.out 4).trans rfl, hx380_0, hx380_1, hx380_2, hx380_3, hx380_4⟩ (fun hHeld => ?_); refine with_tabW spec_l2PutEdge.tab2 spec_l2PutEdge.bits2 (fun HT_ HW_ => ?_)
      generalize wr.drew = w12 at HO_378000 HO_378001 BK377 BK378 BK379 HK HB hx380_0 hx380_1 hx380_2 hx380_3 hx380_4 hHeld ⊢
      refine pu 0 7 ?_
      refine pu 1 8 ?_
      refine tk 2 9 ?_
      refine pu 3 10 ?_
      refine pu 4 11 ?_
      refine pu 5 12 ?_
      refine pu 6 13 ?_
      refine pu 8 15 ?_
      refine tk 7 14 ?_
      refine pu 9 16 ?_
      refine tk 10 17 ?_
      refine tk 11 18 ?_
      refine one_ (i := 12) (N := some 19) #[true, true, true, true, true, true, true, true, true, true, true, true, true, false] rfl rfl (one_of HT_.out (by kernel_rfl)) (by decide) (fun K hK => ?_)
      refine gs Try.func78 #[.agg #[.int .i64 ((rd_T56 l0_1 x5_1).f0), .int .i64 ((rd_T56 l0_1 x5_1).f1.f0), .int .i64 ((rd_T56 l0_1 x5_1).f1.f1), .int .i64 ((rd_T56 l0_1 x5_1).f2.f0), .int .i64 ((rd_T56 l0_1 x5_1).f2.f1)], .agg #[.int .i64 a1_0, .int .i64 a1_1, .int .i64 a1_2, .int .i64 a1_3, .int .i64 a1_4]] ?_
      with_reducible refine (spec_l2Less.calls ((rd_T56 l0_1 x5_1).f0) ((rd_T56 l0_1 x5_1).f1.f0) ((rd_T56 l0_1 x5_1).f1.f1) ((rd_T56 l0_1 x5_1).f2.f0) ((rd_T56 l0_1 x5_1).f2.f1) a1_0 a1_1 a1_2 a1_3 a1_4 true _ A10.out).mono ?_
      rintro e w13 ⟨rfl, hb⟩
      have HS7_ := (hb.cell (World.block_lt_of_cell? _ _ (hHeld.2.2.2.2.2.2.2.1))).trans (hHeld.2.2.2.2.2.2.2.1)
      have HS8_ := (hb.cell (World.block_lt_of_cell? _ _ (hHeld.2.2.2.2.2.2.2.2.1))).trans (hHeld.2.2.2.2.2.2.2.2.1)
      have HS9_ := (hb.cell (World.block_lt_of_cell? _ _ (hHeld.2.2.2.2.2.2.2.2.2.1))).trans (hHeld.2.2.2.2.2.2.2.2.2.1)
      have HS10_ := (hb.cell (World.block_lt_of_cell? _ _ (hHeld.2.2.2.2.2.2.2.2.2.2.1))).trans (hHeld.2.2.2.2.2.2.2.2.2.2.1)
      have HS11_ := (hb.cell (World.block_lt_of_cell? _ _ (hHeld.2.2.2.2.2.2.2.2.2.2.2))).trans (hHeld.2.2.2.2.2.2.2.2.2.2.2)
      refine ⟨_, rfl, ?_⟩
      replace HO_378000 := rb HO_378000 hb
      replace HO_378001 := rb HO_378001 hb
      replace BK377 := bb BK377 hb rfl
      replace BK378 := bb BK378 hb rfl
      replace BK379 := bb BK379 hb rfl
      replace HK := kl HK hb
      replace HB := hs HB hb
      (try clear hb)
      (try clear hb2)
      (try clear hk)
      (try clear hi)
      refine hK.out _ _ ⟨(blk_cell BK377.out 0).trans rfl, (blk_cell BK377.out 1).trans rfl, (blk_cell BK378.out 0).trans rfl, (blk_cell BK378.out 1).trans rfl, (blk_cell BK378.out 2).trans rfl, (blk_cell BK378.out 3).trans rfl, (blk_cell BK378.out 4).trans rfl, HS7_, HS8_, HS9_, HS10_, HS11_⟩ (fun hHeld => ?_)
      clear hK K
      refine nrm 19 ?_
      refine pu 13 20 ?_
      refine done_ (done_of HT_.out (by kernel_rfl)) ?_
      try go_wp2
      go_roundg k1
      case measure => have := HK1.out; omega
      case rel => exact ⟨(wrap64 (x5_1 + 1)), eqs, H', ⟨by have := HK1.out; omega⟩, ⟨rl HO_378000.out⟩, ⟨rl HO_378001.out⟩, ⟨bf BK377.out⟩, ⟨bf BK378.out⟩, ⟨bf BK379.out⟩, ⟨ts HK.out⟩, ⟨bs HB.out⟩⟩
     ·replace c11 := Bool.eq_false_iff.mpr c11
      subst c11
      have H1 : ((some (([] : List (S56)) : List (S56))).bind fun y382 => (if x5_1 ≤ (l0_1.length : Int) then ((some (l0_1.drop (x5_1 : Int).toNat : List (S56))).bind fun y385 => (if y382.length + y385.length < 3518437208883 then ((some (y382 ++ y385 : List (S56))).bind fun y389 => ((some (l0_1.take (x5_1 : Int).toNat : List (S56))).bind fun y392 => (if y392.length < 3518437208883 then ((some (y392 ++ [(⟨a1_0, (⟨a1_1, a1_2⟩ : S36), (⟨a1_3, a1_4⟩ : S36)⟩ : S56)] : List (S56))).bind fun y395 => (if y395.length + y389.length < 3518437208883 then (some (l0_0, (y395 ++ y389))) else (none))) else (none)))) else (none))) else (none))) = some (r1, r2) := by rw [if_neg (show ¬ (false = true) by decide)] at H; exact H
      clear H
      have H := H1
      clear H1
      obtain ⟨y382, hy382⟩ : ∃ y_ : List (S56), y_ = (([] : List (S56))) := ⟨_, rfl⟩
      replace H : (if x5_1 ≤ (l0_1.length : Int) then ((some (l0_1.drop (x5_1 : Int).toNat : List (S56))).bind fun y385 => (if y382.length + y385.length < 3518437208883 then ((some (y382 ++ y385 : List (S56))).bind fun y389 => ((some (l0_1.take (x5_1 : Int).toNat : List (S56))).bind fun y392 => (if y392.length < 3518437208883 then ((some (y392 ++ [(⟨a1_0, (⟨a1_1, a1_2⟩ : S36), (⟨a1_3, a1_4⟩ : S36)⟩ : S56)] : List (S56))).bind fun y395 => (if y395.length + y389.length < 3518437208883 then (some (l0_0, (y395 ++ y389))) else (none))) else (none)))) else (none))) else (none)) = some (r1, r2) := by first | (rw [hy382]; exact H) | exact H
      have Ny382 := Aside0.mk hy382
      clear hy382
      have c14b0 := eq_true (oda : 0 ≤ x5_1)
      by_cases c15 : x5_1 ≤ (l0_1.length : Int)
      ·rw [if_pos c15] at H
       have c15b0 := eq_true c15
       have c15b1 : decide (x5_1 ≤ (l0_1.length : Int)) = true := decide_eq_true c15
       clear c15
       obtain ⟨y385, hy385⟩ : ∃ y_ : List (S56), y_ = (l0_1.drop (x5_1 : Int).toNat) := ⟨_, rfl⟩
       replace H : (if y382.length + y385.length < 3518437208883 then ((some (y382 ++ y385 : List (S56))).bind fun y389 => ((some (l0_1.take (x5_1 : Int).toNat : List (S56))).bind fun y392 => (if y392.length < 3518437208883 then ((some (y392 ++ [(⟨a1_0, (⟨a1_1, a1_2⟩ : S36), (⟨a1_3, a1_4⟩ : S36)⟩ : S56)] : List (S56))).bind fun y395 => (if y395.length + y389.length < 3518437208883 then (some (l0_0, (y395 ++ y389))) else (none))) else (none)))) else (none)) = some (r1, r2) := by first | (rw [hy385]; exact H) | exact H
       have Ny385 := Aside0.mk hy385
       clear hy385
       by_cases c16 : y382.length + y385.length < 3518437208883
       ·rw [if_pos c16] at H
        have LMc16 := Aside0.mk c16
        clear c16
        obtain ⟨y389, hy389⟩ : ∃ y_ : List (S56), y_ = (y382 ++ y385) := ⟨_, rfl⟩
        replace H : ((some (l0_1.take (x5_1 : Int).toNat : List (S56))).bind fun y392 => (if y392.length < 3518437208883 then ((some (y392 ++ [(⟨a1_0, (⟨a1_1, a1_2⟩ : S36), (⟨a1_3, a1_4⟩ : S36)⟩ : S56)] : List (S56))).bind fun y395 => (if y395.length + y389.length < 3518437208883 then (some (l0_0, (y395 ++ y389))) else (none))) else (none))) = some (r1, r2) := by first | (rw [hy389]; exact H) | exact H
        have Ny389 := Aside0.mk hy389
        clear hy389
        have c17b0 := eq_true (oda : x5_1 ≤ (l0_1.length : Int))
        obtain ⟨y392, hy392⟩ : ∃ y_ : List (S56), y_ = (l0_1.take (x5_1 : Int).toNat) := ⟨_, rfl⟩
        replace H : (if y392.length < 3518437208883 then ((some (y392 ++ [(⟨a1_0, (⟨a1_1, a1_2⟩ : S36), (⟨a1_3, a1_4⟩ : S36)⟩ : S56)] : List (S56))).bind fun y395 => (if y395.length + y389.length < 3518437208883 then (some (l0_0, (y395 ++ y389))) else (none))) else (none)) = some (r1, r2) := by first | (rw [hy392]; exact H) | exact H
        have Ny392 := Aside0.mk hy392
        clear hy392
        by_cases c18 : y392.length < 3518437208883
        ·rw [if_pos c18] at H
         have LMc18 := Aside0.mk c18
         clear c18
         obtain ⟨y395, hy395⟩ : ∃ y_ : List (S56), y_ = (y392 ++ [(⟨a1_0, (⟨a1_1, a1_2⟩ : S36), (⟨a1_3, a1_4⟩ : S36)⟩ : S56)]) := ⟨_, rfl⟩
         replace H : (if y395.length + y389.length < 3518437208883 then (some (l0_0, (y395 ++ y389))) else (none)) = some (r1, r2) := by first | (rw [hy395]; exact H) | exact H
         have Ny395 := Aside0.mk hy395
         clear hy395
         by_cases c19 : y395.length + y389.length < 3518437208883
         ·rw [if_pos c19] at H
          have LMc19 := Aside0.mk c19
          clear c19
          obtain ⟨y398, hy398⟩ : ∃ y_ : List (S56), y_ = (y395 ++ y389) := ⟨_, rfl⟩
          replace H : (some (l0_0, y398)) = some (r1, r2) := by first | (rw [hy398]; exact H) | exact H
          have Ny398 := Aside0.mk hy398
          clear hy398
          simp only [Option.some.injEq, Prod.mk.injEq] at H
          obtain ⟨rfl, rfl⟩ := H
          try go_wp2
          replace HO_378000 := rd_ HO_378000
          replace HO_378001 := rd_ HO_378001
          replace BK377 := bd BK377
          replace BK378 := bd BK378
          replace BK379 := bd BK379
          replace HK := Aside0.mk (Kept.drew HK.out)
          replace HB := hd HB
          have p380 : 0 ≤ (x5_1 : Int) := oda
          have q380 : x5_1 < (l0_1.length : Int) := oda
          obtain ⟨ad380, e380, hx380_0, hx380_1, hx380_2, hx380_3, hx380_4⟩ := at_T56 (Kd.R_reads' HO_378001.out).2.2 x5_1 p380 q380
          cases e380
          replace p380 := eq_true p380
          replace q380 := eq_true q380
          refine start_ (n := 14) (S := fun w' => w'.cell? ⟨gb377, 0, none⟩ = some (.slice Ao3 l0_0.length co3) ∧ w'.cell? ⟨gb377, 1, none⟩ = some (.slice (some ad380) l0_1.length co4) ∧ w'.cell? ⟨gb378, 0, none⟩ = some (.int .i64 a1_0) ∧ w'.cell? ⟨gb378, 1, none⟩ = some (.int .i64 a1_1) ∧ w'.cell? ⟨gb378, 2, none⟩ = some (.int .i64 a1_2) ∧ w'.cell? ⟨gb378, 3, none⟩ = some (.int .i64 a1_3) ∧ w'.cell? ⟨gb378, 4, none⟩ = some (.int .i64 a1_4) ∧ w'.cell? (ad380.add ((x5_1).toNat * 5)) = some (.int .i64 ((rd_T56 l0_1 x5_1).f0)) ∧ w'.cell? ⟨(ad380.add ((x5_1).toNat * 5)).block, (ad380.add ((x5_1).toNat * 5)).off + 1, none⟩ = some (.int .i64 ((rd_T56 l0_1 x5_1).f1.f0)) ∧ w'.cell? ⟨(ad380.add ((x5_1).toNat * 5)).block, (ad380.add ((x5_1).toNat * 5)).off + 2, none⟩ = some (.int .i64 ((rd_T56 l0_1 x5_1).f1.f1)) ∧ w'.cell? ⟨(ad380.add ((x5_1).toNat * 5)).block, (ad380.add ((x5_1).toNat * 5)).off + 3, none⟩ = some (.int .i64 ((rd_T56 l0_1 x5_1).f2.f0)) ∧ w'.cell? ⟨(ad380.add ((x5_1).toNat * 5)).block, (ad380.add ((x5_1).toNat * 5)).off + 4, none⟩ = some (.int .i64 ((rd_T56 l0_1 x5_1).f2.f1))) (ds := []) #[false, false, false, false, false, false, false, false, false, false, false, false, false, false] (by kernel_rfl) rfl rfl ⟨(blk_cell BK377.out 0).trans rfl, (blk_cell BK377.out 1).trans rfl, (blk_cell BK378.out 0).trans rfl, (blk_cell BK378.out 1).trans rfl, (blk_cell BK378.out 2).trans rfl, (blk_cell BK378.out 3).trans rfl, (blk_cell BK378.out 4).trans rfl, hx380_0, hx380_1, hx380_2, hx380_3, hx380_4⟩ (fun hHeld => ?_); refine with_tabW spec_l2PutEdge.tab2 spec_l2PutEdge.bits2 (fun HT_ HW_ => ?_)
          generalize wr.drew = w20 at HO_378000 HO_378001 BK377 BK378 BK379 HK HB hx380_0 hx380_1 hx380_2 hx380_3 hx380_4 hHeld ⊢
          refine pu 0 7 ?_
          refine pu 1 8 ?_
          refine tk 2 9 ?_
          refine pu 3 10 ?_
          refine pu 4 11 ?_
          refine pu 5 12 ?_
          refine pu 6 13 ?_
          refine pu 8 15 ?_
          refine tk 7 14 ?_
          refine pu 9 16 ?_
          refine tk 10 17 ?_
          refine tk 11 18 ?_
          refine one_ (i := 12) (N := some 19) #[true, true, true, true, true, true, true, true, true, true, true, true, true, false] rfl rfl (one_of HT_.out (by kernel_rfl)) (by decide) (fun K hK => ?_)
          refine gs Try.func78 #[.agg #[.int .i64 ((rd_T56 l0_1 x5_1).f0), .int .i64 ((rd_T56 l0_1 x5_1).f1.f0), .int .i64 ((rd_T56 l0_1 x5_1).f1.f1), .int .i64 ((rd_T56 l0_1 x5_1).f2.f0), .int .i64 ((rd_T56 l0_1 x5_1).f2.f1)], .agg #[.int .i64 a1_0, .int .i64 a1_1, .int .i64 a1_2, .int .i64 a1_3, .int .i64 a1_4]] ?_
          with_reducible refine (spec_l2Less.calls ((rd_T56 l0_1 x5_1).f0) ((rd_T56 l0_1 x5_1).f1.f0) ((rd_T56 l0_1 x5_1).f1.f1) ((rd_T56 l0_1 x5_1).f2.f0) ((rd_T56 l0_1 x5_1).f2.f1) a1_0 a1_1 a1_2 a1_3 a1_4 false _ A10.out).mono ?_
          rintro e w21 ⟨rfl, hb⟩
          have HS7_ := (hb.cell (World.block_lt_of_cell? _ _ (hHeld.2.2.2.2.2.2.2.1))).trans (hHeld.2.2.2.2.2.2.2.1)
          have HS8_ := (hb.cell (World.block_lt_of_cell? _ _ (hHeld.2.2.2.2.2.2.2.2.1))).trans (hHeld.2.2.2.2.2.2.2.2.1)
          have HS9_ := (hb.cell (World.block_lt_of_cell? _ _ (hHeld.2.2.2.2.2.2.2.2.2.1))).trans (hHeld.2.2.2.2.2.2.2.2.2.1)
          have HS10_ := (hb.cell (World.block_lt_of_cell? _ _ (hHeld.2.2.2.2.2.2.2.2.2.2.1))).trans (hHeld.2.2.2.2.2.2.2.2.2.2.1)
          have HS11_ := (hb.cell (World.block_lt_of_cell? _ _ (hHeld.2.2.2.2.2.2.2.2.2.2.2))).trans (hHeld.2.2.2.2.2.2.2.2.2.2.2)
          refine ⟨_, rfl, ?_⟩
          replace HO_378000 := rb HO_378000 hb
          replace HO_378001 := rb HO_378001 hb
          replace BK377 := bb BK377 hb rfl
          replace BK378 := bb BK378 hb rfl
          replace BK379 := bb BK379 hb rfl
          replace HK := kl HK hb
          replace HB := hs HB hb
          (try clear hb)
          (try clear hb2)
          (try clear hk)
          (try clear hi)
          refine hK.out _ _ ⟨(blk_cell BK377.out 0).trans rfl, (blk_cell BK377.out 1).trans rfl, (blk_cell BK378.out 0).trans rfl, (blk_cell BK378.out 1).trans rfl, (blk_cell BK378.out 2).trans rfl, (blk_cell BK378.out 3).trans rfl, (blk_cell BK378.out 4).trans rfl, HS7_, HS8_, HS9_, HS10_, HS11_⟩ (fun hHeld => ?_)
          clear hK K
          refine nrm 19 ?_
          refine pu 13 20 ?_
          refine done_ (done_of HT_.out (by kernel_rfl)) ?_
          try go_wp2_with (first | ((with_reducible refine gd 23 rfl ?_); refine Kd.R_lit k56 _ 56 ?hg (N := 23) ?hd (xs := ([] : List (S56))) (inner := []) (ok := fun _ => True) (okp := fun _ => True) ?hr ?hp (fun _ hk => hk) trivial (Below.refl _ _) (Nat.le_refl _) (by simp) ?_; (case hd => rfl); (case hg => rfl); (case hr => first | (go_simp; done) | (go_simp; rfl)); (case hp => exact (Reps.none _ _)); intro v383 w22 ho23 hb hg_ hnew_; clear hg_ hnew_; (first | rw [← Ny382.out] at ho23 | (simp only [Int.reduceToNat] at ho23; rw [← Ny382.out] at ho23)); replace HO_378000 := rb HO_378000 hb; have HO384 := Aside0.mk (Kd.R_lower (Kd.R_newB (Kd.R_new' (Kd.R_newM (M := fun k_ => ((P0_0_ k_ ∨ P0_1_ k_) ∨ w.heap.size ≤ k_)) ho23 (by first | exact HK.out.1 | exact (show Kept w _ (fun k_ => P0_0_ k_ ∨ P0_1_ k_) from ts HK.out).1) (fun k_ h_ => .inr h_)) (Kd.R_lt (rl HO_378001.out))) (g := gb378) (o := .cells #[.int .i64 a1_0, .int .i64 a1_1, .int .i64 a1_2, .int .i64 a1_3, .int .i64 a1_4] 56 (0, 0)) (bf BK378.out)) (below_size (bs HB.out))); replace HO_378001 := Aside0.mk (Kd.R_elder' (rl HO_378001.out) (Kd.R_base ho23) hb); replace BK377 := bb BK377 hb rfl; replace BK378 := bb BK378 hb rfl; replace BK379 := bb BK379 hb rfl; replace HK := kl HK hb; replace HB := hs HB hb; clear hb ho23; have hnb24 := NB377_378.out; have hnc24 := NB378_377.out; have hnb25 := NB377_379.out; have hnc25 := NB379_377.out; obtain ⟨hcz26_0, hcz26_1⟩ := bc2 (w := w22) BK377.out; have hfz26 := blk_frozen BK377.out; have q27 : (x5_1 : Int) ≤ ((l0_1.length : Int) : Int) := oda; obtain ⟨i027, hi027, _, hsz27, _⟩ := info_parts info56; have hroom27 : l0_1.length ≤ co4 := (Kd.R_reads' HO_378001.out).2.1; have hC27 : Kd.C k56 _ (some ad380) l0_1.length l0_1 := (Kd.R_reads' HO_378001.out).2.2; have q027 : (0 : Int) ≤ (x5_1 : Int) := oda; have hcut27 := cut_from (P := Try.prog) 32 56 .i64 Try.underlying32 hi027 5 hsz27 (some ad380) l0_1.length co4 x5_1 q027 q27; have hr27 := Kd.C_drop (m := (x5_1 : Int).toNat) (c := co4) hC27 (by omega) hroom27; obtain ⟨A27, hA27⟩ : ∃ A1, A1 = (if co4 = (x5_1 : Int).toNat then (some ad380) else ((some ad380) : Option Addr).map (·.add ((x5_1 : Int).toNat * 5))) := ⟨_, rfl⟩; obtain ⟨c27, hc27⟩ : ∃ c1, c1 = co4 - (x5_1 : Int).toNat := ⟨_, rfl⟩; have hy27 : y385.length = l0_1.length - (x5_1 : Int).toNat := (by rw [Ny385.out, List.length_drop] <;> omega); rw [show (l0_1).drop (x5_1 : Int).toNat = y385 from Ny385.out.symm] at hr27; replace hr27 : Kd.C k56 _ A27 y385.length y385 := (by rw [hA27]; exact hr27); rw [← hy27, ← hA27, ← hc27] at hcut27; have HR388 := Aside0.mk hr27; have HC388 := Aside0.mk (show y385.length ≤ c27 from by rw [hy27, hc27]; exact Nat.sub_le_sub_right hroom27 _); clear hr27 hC27 hroom27 hi027 hsz27 hc27; have KY27 := Aside0.mk hy27; have KA27 := Aside0.mk hA27; clear hy27 hA27; have KL27 := Aside0.mk (show (x5_1 : Int).toNat ≤ l0_1.length from by omega); replace q27 := eq_true q27) | ((with_reducible refine gate_builtin (b := .append) (xs := #[.tmp 23, .tmp 27]) rfl ?_); at_builtin; refine Kd.R_append_rows k56 (w0 := w0) w0.heap.size rfl (.tmp 23) (.tmp 27) 32 56 (.agg #[(.int .i64 0), (.int .i64 0), (.int .i64 0), (.int .i64 0), (.int .i64 0)]) 40 rfl Try.underlying32 info56 rfl (by decide) (by omega) v383 y382 y385 _ _ _ (fun k_ => ((P0_0_ k_ ∨ P0_1_ k_) ∨ w.heap.size ≤ k_) ∧ some k_ ≠ (.slice (some ad380) l0_1.length co4 : Value).ownBlock ∧ k_ ≠ gb378) (fun _ => False) rfl rfl ?aO ?aR (fun _ _ h => h) (fun _ h => h.elim) ?aF ?aB ?aS ?aL ?_; (case aR => repeat (first | exact (by repeat (first | (with_reducible exact HR388.out) | (with_reducible refine Kd.C_alloc ?_ _) | (with_reducible refine Kd.C_drewN ?_ _) | (with_reducible refine Kd.C_drew ?_) | exact HR388.out)) | (with_reducible refine Kd.C_alloc ?_ _) | (with_reducible refine Kd.C_drewN ?_ _) | (with_reducible refine Kd.C_drew ?_))); (case aB => exact (bs HB.out)); (case aF => exact (fun k_ hk => ⟨(.inr (Nat.le_trans (by first | exact HK.out.1 | exact (show Kept w _ (fun k_ => P0_0_ k_ ∨ P0_1_ k_) from ts HK.out).1) hk)), Kd.fresh' (Kd.R_lt (rl HO_378001.out)) k_ hk, Kd.freshB (g := gb378) (o := .cells #[.int .i64 a1_0, .int .i64 a1_1, .int .i64 a1_2, .int .i64 a1_3, .int .i64 a1_4] 56 (0, 0)) (bf BK378.out) k_ hk⟩)); (case aO => exact (by (with_reducible repeat (first | apply Kd.R_alloc | apply Kd.R_drewN | apply Kd.R_drew)); exact Kd.R_mono HO384.out (fun _ hk => ⟨hk.1.1.1, ⟨hk.1.2, hk.2⟩⟩))); (case aS => exact (below_size (bs HB.out))); (case aL => have := LMc16.out; omega); intro v390 w28 ho hb hg hat; rw [← Ny389.out] at ho; replace HO_378000 := Aside0.mk (Kd.R_over' (rl HO_378000.out) (Kd.R_typed (rl HO384.out)) (by decide) hg); replace BK377 := gr BK377 HO384 hg; replace BK378 := Aside0.mk (blk_grown (g := gb378) (o := .cells #[.int .i64 a1_0, .int .i64 a1_1, .int .i64 a1_2, .int .i64 a1_3, .int .i64 a1_4] 56 (0, 0)) (bf BK378.out) hg (Kd.R_away HO384.out (fun _ hk => hk.2))); replace BK379 := gr BK379 HO384 hg; replace HB := Aside0.mk (hb); replace HK := Aside0.mk (Kept.of_grown (S := (fun k_ => P0_0_ k_ ∨ P0_1_ k_)) hg (ts HK.out) (fun k_ e_ => (HO384.out.1 k_ e_).1.1.1)); replace HR388 := Aside0.mk ((show Kd.C k56 w28 A27 y385.length y385 from by rw [Ny385.out, KA27.out]; exact Kd.C_drop (m := (x5_1 : Int).toNat) (c := co4) ((Kd.R_reads' (Kd.R_after (ok := (fun k_ => ((P0_0_ k_ ∨ P0_1_ k_) ∨ w.heap.size ≤ k_) ∧ k_ ≠ gb378)) (rl HO_378001.out) hg hat)).2.2) KL27.out ((Kd.R_reads' (Kd.R_after (ok := (fun k_ => ((P0_0_ k_ ∨ P0_1_ k_) ∨ w.heap.size ≤ k_) ∧ k_ ≠ gb378)) (rl HO_378001.out) hg hat)).2.1))); replace HO_378001 := Aside0.mk (Kd.R_after (ok := (fun k_ => ((P0_0_ k_ ∨ P0_1_ k_) ∨ w.heap.size ≤ k_) ∧ k_ ≠ gb378)) (rl HO_378001.out) hg hat); have HO391 := Aside0.mk (ho); clear HO384; clear ho hb hg hat))
          replace HO_378000 := rd_ HO_378000
          replace HO_378001 := rd_ HO_378001
          replace HO391 := rd_ HO391
          replace BK377 := bd BK377
          replace BK378 := bd BK378
          replace BK379 := bd BK379
          replace HR388 := Aside0.mk (Kd.C_drew HR388.out)
          replace HK := Aside0.mk (Kept.drew HK.out)
          replace HB := hd HB
          have q30 : (x5_1 : Int) ≤ ((l0_1.length : Int) : Int) := oda
          obtain ⟨i030, hi030, _, hsz30, _⟩ := info_parts info56
          have hcut30 := cut_to (P := Try.prog) 32 56 .i64 Try.underlying32 hi030 (some ad380) l0_1.length co4 x5_1 (oda) q30 (Kd.R_reads' HO_378001.out).2.1
          have hr30 := Kd.R_take (m := (x5_1 : Int).toNat) HO_378001.out (by omega)
          have hy30 : y392.length = (x5_1 : Int).toNat := (by rw [Ny392.out, List.length_take]; omega)
          rw [← Ny392.out] at hr30
          rw [← hy30] at hr30 hcut30
          clear hy30 hi030 hsz30 HO_378001
          have HO394 := Aside0.mk hr30
          clear hr30
          replace q30 := eq_true q30
          refine start_ (n := 11) (S := fun w' => w'.cell? ⟨gb377, 0, none⟩ = some (.slice Ao3 l0_0.length co3) ∧ w'.cell? ⟨gb377, 1, none⟩ = some (.slice (some ad380) l0_1.length co4) ∧ w'.cell? ⟨gb378, 0, none⟩ = some (.int .i64 a1_0) ∧ w'.cell? ⟨gb378, 1, none⟩ = some (.int .i64 a1_1) ∧ w'.cell? ⟨gb378, 2, none⟩ = some (.int .i64 a1_2) ∧ w'.cell? ⟨gb378, 3, none⟩ = some (.int .i64 a1_3) ∧ w'.cell? ⟨gb378, 4, none⟩ = some (.int .i64 a1_4)) (ds := [10]) #[false, false, false, false, false, false, false, false, false, false, false] (by kernel_rfl) rfl rfl ⟨(blk_cell BK377.out 0).trans rfl, (blk_cell BK377.out 1).trans rfl, (blk_cell BK378.out 0).trans rfl, (blk_cell BK378.out 1).trans rfl, (blk_cell BK378.out 2).trans rfl, (blk_cell BK378.out 3).trans rfl, (blk_cell BK378.out 4).trans rfl⟩ (fun hHeld => ?_); refine with_tabW spec_l2PutEdge.tab5 spec_l2PutEdge.bits5 (fun HT_ HW_ => ?_)
          generalize w28.drew = w29 at HO_378000 HO391 BK377 BK378 BK379 HR388 HK HB HO394 hHeld ⊢
          refine pu 0 29 ?_
          refine pu 2 31 ?_
          refine pu 7 36 ?_
          refine tk 1 30 ?_
          refine pu 3 32 ?_
          refine tk 4 33 ?_
          refine one_ (i := 5) (N := some 34) #[true, true, true, true, true, true, false, true, false, false, false] rfl rfl (one_of HT_.out (by kernel_rfl)) (by decide) (fun K hK => ?_)
          refine value_ (w1 := ?_) (v := ?_) (by rfl) rfl ?_ ?_
          rotate_left 2
          ·go_simp
           constructor
           ·rfl
           ·rfl
          refine hK.out _ _ ⟨(blk_cell (blk_alloc BK377.out _) 0).trans rfl, (blk_cell (blk_alloc BK377.out _) 1).trans rfl, (blk_cell (blk_alloc BK378.out _) 0).trans rfl, (blk_cell (blk_alloc BK378.out _) 1).trans rfl, (blk_cell (blk_alloc BK378.out _) 2).trans rfl, (blk_cell (blk_alloc BK378.out _) 3).trans rfl, (blk_cell (blk_alloc BK378.out _) 4).trans rfl⟩ (fun hHeld => ?_)
          clear hK K
          refine nrm 34 ?_
          refine one_ (i := 6) (N := some 35) #[true, true, true, true, true, true, true, true, false, false, false] rfl rfl (one_of HT_.out (by kernel_rfl)) (by decide) (fun K hK => ?_)
          refine Kd.R_append_step k56 (w0 := w0) w0.heap.size (by rfl) (.tmp 32) (.tmp 34) 32 56 (.agg #[(.int .i64 0), (.int .i64 0), (.int .i64 0), (.int .i64 0), (.int .i64 0)]) 40 rfl Try.underlying32 info56 rfl (by decide) (by omega) (.slice (some ad380) y392.length co4) y392 (⟨a1_0, (⟨a1_1, a1_2⟩ : S36), (⟨a1_3, a1_4⟩ : S36)⟩ : S56) [.int .i64 a1_0, .int .i64 a1_1, .int .i64 a1_2, .int .i64 a1_3, .int .i64 a1_4] (fun k_ => ((P0_0_ k_ ∨ P0_1_ k_) ∨ w.heap.size ≤ k_) ∧ some k_ ≠ (v390 : Value).ownBlock ∧ k_ ≠ gb378) (fun _ => False) rfl rfl ?aP (fun _ hk => hk.elim) ?aF ?aO ?aB ?aS ?aL ?_
          (case aP => exact k56_mkM _ _ _ (⟨a1_0, (⟨a1_1, a1_2⟩ : S36), (⟨a1_3, a1_4⟩ : S36)⟩ : S56))
          (case aB => exact (bs HB.out))
          (case aF => exact (fun k_ hk => ⟨(.inr (Nat.le_trans (by first | exact HK.out.1 | exact (show Kept w _ (fun k_ => P0_0_ k_ ∨ P0_1_ k_) from ts HK.out).1) hk)), Kd.fresh' (Kd.R_lt (rl HO391.out)) k_ hk, Kd.freshB (g := gb378) (o := .cells #[.int .i64 a1_0, .int .i64 a1_1, .int .i64 a1_2, .int .i64 a1_3, .int .i64 a1_4] 56 (0, 0)) (bf BK378.out) k_ hk⟩))
          (case aO => exact (by (with_reducible repeat (first | apply Kd.R_alloc | apply Kd.R_drewN | apply Kd.R_drew)); exact Kd.R_mono HO394.out (fun _ hk => ⟨hk.1.1, ⟨hk.2, hk.1.2⟩⟩)))
          (case aS => exact (below_size (bs HB.out)))
          (case aL => have := LMc18.out; omega)
          intro v396 w31 ho hb hg hat
          rw [← Ny395.out] at ho
          replace HO_378000 := Aside0.mk (Kd.R_over' (rl HO_378000.out) (Kd.R_typed (rl HO394.out)) (by decide) hg)
          replace BK377 := gr BK377 HO394 hg
          replace BK378 := Aside0.mk (blk_grown (g := gb378) (o := .cells #[.int .i64 a1_0, .int .i64 a1_1, .int .i64 a1_2, .int .i64 a1_3, .int .i64 a1_4] 56 (0, 0)) (bf BK378.out) hg (Kd.R_away HO394.out (fun _ hk => hk.1.2)))
          replace BK379 := gr BK379 HO394 hg
          replace HO391 := Aside0.mk (Kd.R_after (ok := (fun k_ => ((P0_0_ k_ ∨ P0_1_ k_) ∨ w.heap.size ≤ k_) ∧ k_ ≠ gb378)) (by (with_reducible repeat (first | apply Kd.R_alloc | apply Kd.R_drewN | apply Kd.R_drew)); exact Kd.R_mono HO391.out (fun _ hk => ⟨⟨hk.1, hk.2.2⟩, fun e_ => hk.2.1 (e_.trans ob)⟩)) hg hat)
          replace HB := Aside0.mk (hb)
          replace HK := Aside0.mk (Kept.of_grown (S := (fun k_ => P0_0_ k_ ∨ P0_1_ k_)) hg (ts HK.out) (fun k_ e_ => (HO394.out.1 k_ e_).1.1))
          have HO397 := Aside0.mk (ho)
          clear HO394
          clear ho hb hg hat
          obtain ⟨Ao33, co33, eo33⟩ := Kd.R_slice HO391.out
          (first | subst eo33 | (injection eo33 with f1_ f2_ f3_; have f4_ := f1_.symm; have f5_ := f3_.symm; clear f1_ f2_ f3_; subst f4_; subst f5_))
          refine hK.out _ _ ⟨(blk_cell BK377.out 0).trans rfl, (blk_cell BK377.out 1).trans rfl, (blk_cell BK378.out 0).trans rfl, (blk_cell BK378.out 1).trans rfl, (blk_cell BK378.out 2).trans rfl, (blk_cell BK378.out 3).trans rfl, (blk_cell BK378.out 4).trans rfl⟩ (fun hHeld => ?_)
          clear hK K
          refine nrm 35 ?_
          refine one_ (i := 8) (N := some 37) #[true, true, true, true, true, true, true, true, true, false, false] rfl rfl (one_of HT_.out (by kernel_rfl)) (by decide) (fun K hK => ?_)
          refine Kd.R_append_rows_step k56 (w0 := w0) w0.heap.size (by rfl) (.tmp 35) (.tmp 36) 32 56 (.agg #[(.int .i64 0), (.int .i64 0), (.int .i64 0), (.int .i64 0), (.int .i64 0)]) 40 rfl Try.underlying32 info56 rfl (by decide) (by omega) v396 y395 y389 _ _ _ (fun k_ => ((P0_0_ k_ ∨ P0_1_ k_) ∨ w.heap.size ≤ k_) ∧ some k_ ≠ (.slice Ao33 y389.length co33 : Value).ownBlock ∧ k_ ≠ gb378) (fun _ => False) rfl rfl ?aO ?aR (fun _ _ h => h) (fun _ h => h.elim) ?aF ?aB ?aS ?aL ?_
          (case aR => exact cr HO391)
          (case aB => exact (bs HB.out))
          (case aF => exact (fun k_ hk => ⟨(.inr (Nat.le_trans (by first | exact HK.out.1 | exact (show Kept w _ (fun k_ => P0_0_ k_ ∨ P0_1_ k_) from ts HK.out).1) hk)), Kd.fresh' (Kd.R_lt (rl HO391.out)) k_ hk, Kd.freshB (g := gb378) (o := .cells #[.int .i64 a1_0, .int .i64 a1_1, .int .i64 a1_2, .int .i64 a1_3, .int .i64 a1_4] 56 (0, 0)) (bf BK378.out) k_ hk⟩))
          (case aO => exact (rl HO397.out))
          (case aS => exact (below_size (bs HB.out)))
          (case aL => have := LMc19.out; omega)
          intro v399 w32 ho hb hg hat
          rw [← Ny398.out] at ho
          replace HO_378000 := Aside0.mk (Kd.R_over' (rl HO_378000.out) (Kd.R_typed (rl HO397.out)) (by decide) hg)
          replace BK377 := gr BK377 HO397 hg
          replace BK378 := Aside0.mk (blk_grown (g := gb378) (o := .cells #[.int .i64 a1_0, .int .i64 a1_1, .int .i64 a1_2, .int .i64 a1_3, .int .i64 a1_4] 56 (0, 0)) (bf BK378.out) hg (Kd.R_away HO397.out (fun _ hk => hk.2.2)))
          replace BK379 := gr BK379 HO397 hg
          replace HO391 := Aside0.mk (Kd.R_after (ok := (fun k_ => ((P0_0_ k_ ∨ P0_1_ k_) ∨ w.heap.size ≤ k_) ∧ k_ ≠ gb378)) (rl HO391.out) hg hat)
          replace HB := Aside0.mk (hb)
          replace HK := Aside0.mk (Kept.of_grown (S := (fun k_ => P0_0_ k_ ∨ P0_1_ k_)) hg (ts HK.out) (fun k_ e_ => (HO397.out.1 k_ e_).1))
          have HO400 := Aside0.mk (ho)
          clear HO397
          clear ho hb hg hat
          obtain ⟨Ao34, co34, eo34⟩ := Kd.R_slice HO400.out
          (first | subst eo34 | (injection eo34 with f1_ f2_ f3_; have f4_ := f1_.symm; have f5_ := f3_.symm; clear f1_ f2_ f3_; subst f4_; subst f5_))
          refine hK.out _ _ ⟨(blk_cell BK377.out 0).trans rfl, (blk_cell BK377.out 1).trans rfl, (blk_cell BK378.out 0).trans rfl, (blk_cell BK378.out 1).trans rfl, (blk_cell BK378.out 2).trans rfl, (blk_cell BK378.out 3).trans rfl, (blk_cell BK378.out 4).trans rfl⟩ (fun hHeld => ?_)
          clear hK K
          refine nrm 37 ?_
          refine pu 9 38 ?_
          refine last_ (i := 10) (N := none) #[true, true, true, true, true, true, true, true, true, true, true] rfl rfl (one_of HT_.out (by kernel_rfl)) (by decide) (fun K hK => ?_)
          have hs35 : w32.cell? ⟨gb377, 1, none⟩ = some (.slice (some ad380) l0_1.length co4) := (blk_cell BK377.out 1).trans rfl
          have hfs35 := blk_frozen BK377.out 1
          have hns35_1 := NB378_377.out
          have hns35_2 := NB379_377.out
          have hms35_1 := NB377_378.out
          have hms35_2 := NB377_379.out
          refine skip_ (w1 := ?_) (by rfl) rfl ?_ ?_
          rotate_left
          ·go_simp
           rfl
          refine hK.out _ _ ?_
          clear hK K
          refine done_ (done_of HT_.out (by kernel_rfl)) ?_
          obtain ⟨hcz36_0, hcz36_1⟩ := bc2 (w := w32) BK377.out
          have hfz36 := blk_frozen BK377.out
          have hnb37 := NB379_378.out
          have hnc37 := NB378_379.out
          obtain ⟨hcz38_0, hcz38_1⟩ := bc2 (w := w32) BK379.out
          have hfz38 := blk_frozen BK379.out
          try go_wp2
          refine bodyPost_ret (results_cell_row rfl _ _ gb379 34 #[.slice Ao3 l0_0.length co3, .slice Ao34 y398.length co34] (0, 0) _ rfl (bp BK379.out rfl) Try.underlying34 rfl (by kernel_rfl)) rfl ?_
          exact ⟨_, _, eqr, by (with_reducible repeat (first | apply Kd.R_alloc | apply Kd.R_drewN | apply Kd.R_drew)); exact Kd.R_mono (Kd.R_far (p := ⟨gb379, 1, none⟩) (Kd.R_far (p := ⟨gb379, 0, none⟩) (Kd.R_far (p := ⟨gb377, 1, none⟩) (Kd.R_types (Kd.R_types HO_378000.out BK377.out (by decide)) BK379.out (by decide)) (fun _ hk => hk.1.2) (.slice Ao34 y398.length co34)) (fun _ hk => hk.2) (.slice Ao3 l0_0.length co3)) (fun _ hk => hk.2) (.slice Ao34 y398.length co34)) (fun _ hk => hk.1.1), by (with_reducible repeat (first | apply Kd.R_alloc | apply Kd.R_drewN | apply Kd.R_drew)); exact Kd.R_mono (Kd.R_far (p := ⟨gb379, 1, none⟩) (Kd.R_far (p := ⟨gb379, 0, none⟩) (Kd.R_far (p := ⟨gb377, 1, none⟩) (Kd.R_types (Kd.R_types HO400.out BK377.out (by decide)) BK379.out (by decide)) (fun _ hk => hk.1.2) (.slice Ao34 y398.length co34)) (fun _ hk => hk.2) (.slice Ao3 l0_0.length co3)) (fun _ hk => hk.2) (.slice Ao34 y398.length co34)) (fun _ hk => hk.1.1.1), bs HB.out, ts HK.out⟩
         ·rw [if_neg c19] at H
          exact absurd H (by simp)
        ·rw [if_neg c18] at H
         exact absurd H (by simp)
       ·rw [if_neg c16] at H
        exact absurd H (by simp)
      ·rw [if_neg c15] at H
       exact absurd H (by simp)
    ·rw [if_neg c9] at H
     exact absurd H (by simp)
   ·rw [if_neg c8] at H
    have c8b0 : decide (x5_1 < (l0_1.length : Int)) = false := decide_eq_false c8
    clear c8
    obtain ⟨y401, hy401⟩ : ∃ y_ : List (S56), y_ = (([] : List (S56))) := ⟨_, rfl⟩
    replace H : (if 0 ≤ x5_1 then (if x5_1 ≤ (l0_1.length : Int) then ((some (l0_1.drop (x5_1 : Int).toNat : List (S56))).bind fun y404 => (if y401.length + y404.length < 3518437208883 then ((some (y401 ++ y404 : List (S56))).bind fun y408 => ((some (l0_1.take (x5_1 : Int).toNat : List (S56))).bind fun y411 => (if y411.length < 3518437208883 then ((some (y411 ++ [(⟨a1_0, (⟨a1_1, a1_2⟩ : S36), (⟨a1_3, a1_4⟩ : S36)⟩ : S56)] : List (S56))).bind fun y414 => (if y414.length + y408.length < 3518437208883 then (some (l0_0, (y414 ++ y408))) else (none))) else (none)))) else (none))) else (none)) else (none)) = some (r1, r2) := by first | (rw [hy401]; exact H) | exact H
    have Ny401 := Aside0.mk hy401
    clear hy401
    by_cases c39 : 0 ≤ x5_1
    ·rw [if_pos c39] at H
     have c39b0 := eq_true c39
     have c39b1 : decide (0 ≤ x5_1) = true := decide_eq_true c39
     clear c39
     by_cases c40 : x5_1 ≤ (l0_1.length : Int)
     ·rw [if_pos c40] at H
      have c40b0 := eq_true c40
      have c40b1 : decide (x5_1 ≤ (l0_1.length : Int)) = true := decide_eq_true c40
      clear c40
      obtain ⟨y404, hy404⟩ : ∃ y_ : List (S56), y_ = (l0_1.drop (x5_1 : Int).toNat) := ⟨_, rfl⟩
      replace H : (if y401.length + y404.length < 3518437208883 then ((some (y401 ++ y404 : List (S56))).bind fun y408 => ((some (l0_1.take (x5_1 : Int).toNat : List (S56))).bind fun y411 => (if y411.length < 3518437208883 then ((some (y411 ++ [(⟨a1_0, (⟨a1_1, a1_2⟩ : S36), (⟨a1_3, a1_4⟩ : S36)⟩ : S56)] : List (S56))).bind fun y414 => (if y414.length + y408.length < 3518437208883 then (some (l0_0, (y414 ++ y408))) else (none))) else (none)))) else (none)) = some (r1, r2) := by first | (rw [hy404]; exact H) | exact H
      have Ny404 := Aside0.mk hy404
      clear hy404
      by_cases c41 : y401.length + y404.length < 3518437208883
      ·rw [if_pos c41] at H
       have LMc41 := Aside0.mk c41
       clear c41
       obtain ⟨y408, hy408⟩ : ∃ y_ : List (S56), y_ = (y401 ++ y404) := ⟨_, rfl⟩
       replace H : ((some (l0_1.take (x5_1 : Int).toNat : List (S56))).bind fun y411 => (if y411.length < 3518437208883 then ((some (y411 ++ [(⟨a1_0, (⟨a1_1, a1_2⟩ : S36), (⟨a1_3, a1_4⟩ : S36)⟩ : S56)] : List (S56))).bind fun y414 => (if y414.length + y408.length < 3518437208883 then (some (l0_0, (y414 ++ y408))) else (none))) else (none))) = some (r1, r2) := by first | (rw [hy408]; exact H) | exact H
       have Ny408 := Aside0.mk hy408
       clear hy408
       have c42b0 := eq_true (oda : x5_1 ≤ (l0_1.length : Int))
       obtain ⟨y411, hy411⟩ : ∃ y_ : List (S56), y_ = (l0_1.take (x5_1 : Int).toNat) := ⟨_, rfl⟩
       replace H : (if y411.length < 3518437208883 then ((some (y411 ++ [(⟨a1_0, (⟨a1_1, a1_2⟩ : S36), (⟨a1_3, a1_4⟩ : S36)⟩ : S56)] : List (S56))).bind fun y414 => (if y414.length + y408.length < 3518437208883 then (some (l0_0, (y414 ++ y408))) else (none))) else (none)) = some (r1, r2) := by first | (rw [hy411]; exact H) | exact H
       have Ny411 := Aside0.mk hy411
       clear hy411
       by_cases c43 : y411.length < 3518437208883
       ·rw [if_pos c43] at H
        have LMc43 := Aside0.mk c43
        clear c43
        obtain ⟨y414, hy414⟩ : ∃ y_ : List (S56), y_ = (y411 ++ [(⟨a1_0, (⟨a1_1, a1_2⟩ : S36), (⟨a1_3, a1_4⟩ : S36)⟩ : S56)]) := ⟨_, rfl⟩
        replace H : (if y414.length + y408.length < 3518437208883 then (some (l0_0, (y414 ++ y408))) else (none)) = some (r1, r2) := by first | (rw [hy414]; exact H) | exact H
        have Ny414 := Aside0.mk hy414
        clear hy414
        by_cases c44 : y414.length + y408.length < 3518437208883
        ·rw [if_pos c44] at H
         have LMc44 := Aside0.mk c44
         clear c44
         obtain ⟨y417, hy417⟩ : ∃ y_ : List (S56), y_ = (y414 ++ y408) := ⟨_, rfl⟩
         replace H : (some (l0_0, y417)) = some (r1, r2) := by first | (rw [hy417]; exact H) | exact H
         have Ny417 := Aside0.mk hy417
         clear hy417
         simp only [Option.some.injEq, Prod.mk.injEq] at H
         obtain ⟨rfl, rfl⟩ := H
         try go_wp2
         replace HO_378000 := rd_ HO_378000
         replace HO_378001 := rd_ HO_378001
         replace BK377 := bd BK377
         replace BK378 := bd BK378
         replace BK379 := bd BK379
         replace HK := Aside0.mk (Kept.drew HK.out)
         replace HB := hd HB
         refine start_ (n := 14) (S := fun w' => w'.cell? ⟨gb377, 0, none⟩ = some (.slice Ao3 l0_0.length co3) ∧ w'.cell? ⟨gb377, 1, none⟩ = some (.slice Ao4 l0_1.length co4)) (ds := []) #[false, false, false, false, false, false, false, false, false, false, false, false, false, false] (by kernel_rfl) rfl rfl ⟨(blk_cell BK377.out 0).trans rfl, (blk_cell BK377.out 1).trans rfl⟩ (fun hHeld => ?_); refine with_tabW spec_l2PutEdge.tab2 spec_l2PutEdge.bits2 (fun HT_ HW_ => ?_)
         generalize wr.drew = w45 at HO_378000 HO_378001 BK377 BK378 BK379 HK HB hHeld ⊢
         refine pu 0 7 ?_
         refine pu 1 8 ?_
         refine tk 2 9 ?_
         refine pu 3 10 ?_
         refine pu 4 11 ?_
         refine pu 5 12 ?_
         refine pure_ (i := 6) (N := some 13) (v := undef) (a' := ?_) #[true, true, true, true, true, true, true, false, false, false, false, false, false, false] rfl rfl (any_of HT_.out (by kernel_rfl)) (fun _ _ _ h => h) (Or.inr ⟨by rfl, rfl⟩) ?_ ?_
         rotate_left
         ·simp only [Act.put, List.setIfInBounds_toArray, List.set_cons_zero, List.set_cons_succ, i64_w, i32_w]
          rfl
         refine pure_ (i := 7) (N := some 14) (v := undef) (a' := ?_) #[true, true, true, true, true, true, true, true, false, false, false, false, false, false] rfl rfl (any_of HT_.out (by kernel_rfl)) (fun _ _ _ h => h) (Or.inr ⟨by rfl, rfl⟩) ?_ ?_
         rotate_left
         ·simp only [Act.put, List.setIfInBounds_toArray, List.set_cons_zero, List.set_cons_succ, i64_w, i32_w]
          rfl
         refine pure_ (i := 8) (N := some 15) (v := undef) (a' := ?_) #[true, true, true, true, true, true, true, true, true, false, false, false, false, false] rfl rfl (any_of HT_.out (by kernel_rfl)) (fun _ _ _ h => h) (Or.inr ⟨by rfl, rfl⟩) ?_ ?_
         rotate_left
         ·simp only [Act.put, List.setIfInBounds_toArray, List.set_cons_zero, List.set_cons_succ, i64_w, i32_w]
          rfl
         refine pure_ (i := 9) (N := some 16) (v := undef) (a' := ?_) #[true, true, true, true, true, true, true, true, true, true, false, false, false, false] rfl rfl (any_of HT_.out (by kernel_rfl)) (fun _ _ _ h => h) (Or.inr ⟨by rfl, rfl⟩) ?_ ?_
         rotate_left
         ·simp only [Act.put, List.setIfInBounds_toArray, List.set_cons_zero, List.set_cons_succ, i64_w, i32_w]
          rfl
         refine pure_ (i := 10) (N := some 17) (v := undef) (a' := ?_) #[true, true, true, true, true, true, true, true, true, true, true, false, false, false] rfl rfl (any_of HT_.out (by kernel_rfl)) (fun _ _ _ h => h) (Or.inr ⟨by rfl, rfl⟩) ?_ ?_
         rotate_left
         ·simp only [Act.put, List.setIfInBounds_toArray, List.set_cons_zero, List.set_cons_succ, i64_w, i32_w]
          rfl
         refine pure_ (i := 11) (N := some 18) (v := undef) (a' := ?_) #[true, true, true, true, true, true, true, true, true, true, true, true, false, false] rfl rfl (any_of HT_.out (by kernel_rfl)) (fun _ _ _ h => h) (Or.inr ⟨by rfl, rfl⟩) ?_ ?_
         rotate_left
         ·simp only [Act.put, List.setIfInBounds_toArray, List.set_cons_zero, List.set_cons_succ, i64_w, i32_w]
          rfl
         refine pure_ (i := 12) (N := some 19) (v := undef) (a' := ?_) #[true, true, true, true, true, true, true, true, true, true, true, true, true, false] rfl rfl (any_of HT_.out (by kernel_rfl)) (fun _ _ _ h => h) (Or.inr ⟨by rfl, rfl⟩) ?_ ?_
         rotate_left
         ·simp only [Act.put, List.setIfInBounds_toArray, List.set_cons_zero, List.set_cons_succ, i64_w, i32_w]
          rfl
         refine pu 13 20 ?_
         refine done_ (done_of HT_.out (by kernel_rfl)) ?_
         try go_wp2_with (first | ((with_reducible refine gd 23 rfl ?_); refine Kd.R_lit k56 _ 56 ?hg (N := 23) ?hd (xs := ([] : List (S56))) (inner := []) (ok := fun _ => True) (okp := fun _ => True) ?hr ?hp (fun _ hk => hk) trivial (Below.refl _ _) (Nat.le_refl _) (by simp) ?_; (case hd => rfl); (case hg => rfl); (case hr => first | (go_simp; done) | (go_simp; rfl)); (case hp => exact (Reps.none _ _)); intro v402 w46 ho47 hb hg_ hnew_; clear hg_ hnew_; (first | rw [← Ny401.out] at ho47 | (simp only [Int.reduceToNat] at ho47; rw [← Ny401.out] at ho47)); replace HO_378000 := rb HO_378000 hb; have HO403 := Aside0.mk (Kd.R_lower (Kd.R_newB (Kd.R_new' (Kd.R_newM (M := fun k_ => ((P0_0_ k_ ∨ P0_1_ k_) ∨ w.heap.size ≤ k_)) ho47 (by first | exact HK.out.1 | exact (show Kept w _ (fun k_ => P0_0_ k_ ∨ P0_1_ k_) from ts HK.out).1) (fun k_ h_ => .inr h_)) (Kd.R_lt (rl HO_378001.out))) (g := gb378) (o := .cells #[.int .i64 a1_0, .int .i64 a1_1, .int .i64 a1_2, .int .i64 a1_3, .int .i64 a1_4] 56 (0, 0)) (bf BK378.out)) (below_size (bs HB.out))); replace HO_378001 := Aside0.mk (Kd.R_elder' (rl HO_378001.out) (Kd.R_base ho47) hb); replace BK377 := bb BK377 hb rfl; replace BK378 := bb BK378 hb rfl; replace BK379 := bb BK379 hb rfl; replace HK := kl HK hb; replace HB := hs HB hb; clear hb ho47; have hnb48 := NB377_378.out; have hnc48 := NB378_377.out; have hnb49 := NB377_379.out; have hnc49 := NB379_377.out; obtain ⟨hcz50_0, hcz50_1⟩ := bc2 (w := w46) BK377.out; have hfz50 := blk_frozen BK377.out; have q51 : (x5_1 : Int) ≤ ((l0_1.length : Int) : Int) := oda; obtain ⟨i051, hi051, _, hsz51, _⟩ := info_parts info56; have hroom51 : l0_1.length ≤ co4 := (Kd.R_reads' HO_378001.out).2.1; have hC51 : Kd.C k56 _ Ao4 l0_1.length l0_1 := (Kd.R_reads' HO_378001.out).2.2; have q051 : (0 : Int) ≤ (x5_1 : Int) := oda; have hcut51 := cut_from (P := Try.prog) 32 56 .i64 Try.underlying32 hi051 5 hsz51 Ao4 l0_1.length co4 x5_1 q051 q51; have hr51 := Kd.C_drop (m := (x5_1 : Int).toNat) (c := co4) hC51 (by omega) hroom51; obtain ⟨A51, hA51⟩ : ∃ A1, A1 = (if co4 = (x5_1 : Int).toNat then Ao4 else (Ao4 : Option Addr).map (·.add ((x5_1 : Int).toNat * 5))) := ⟨_, rfl⟩; obtain ⟨c51, hc51⟩ : ∃ c1, c1 = co4 - (x5_1 : Int).toNat := ⟨_, rfl⟩; have hy51 : y404.length = l0_1.length - (x5_1 : Int).toNat := (by rw [Ny404.out, List.length_drop] <;> omega); rw [show (l0_1).drop (x5_1 : Int).toNat = y404 from Ny404.out.symm] at hr51; replace hr51 : Kd.C k56 _ A51 y404.length y404 := (by rw [hA51]; exact hr51); rw [← hy51, ← hA51, ← hc51] at hcut51; have HR407 := Aside0.mk hr51; have HC407 := Aside0.mk (show y404.length ≤ c51 from by rw [hy51, hc51]; exact Nat.sub_le_sub_right hroom51 _); clear hr51 hC51 hroom51 hi051 hsz51 hc51; have KY51 := Aside0.mk hy51; have KA51 := Aside0.mk hA51; clear hy51 hA51; have KL51 := Aside0.mk (show (x5_1 : Int).toNat ≤ l0_1.length from by omega); replace q51 := eq_true q51) | ((with_reducible refine gate_builtin (b := .append) (xs := #[.tmp 23, .tmp 27]) rfl ?_); at_builtin; refine Kd.R_append_rows k56 (w0 := w0) w0.heap.size rfl (.tmp 23) (.tmp 27) 32 56 (.agg #[(.int .i64 0), (.int .i64 0), (.int .i64 0), (.int .i64 0), (.int .i64 0)]) 40 rfl Try.underlying32 info56 rfl (by decide) (by omega) v402 y401 y404 _ _ _ (fun k_ => ((P0_0_ k_ ∨ P0_1_ k_) ∨ w.heap.size ≤ k_) ∧ some k_ ≠ (.slice Ao4 l0_1.length co4 : Value).ownBlock ∧ k_ ≠ gb378) (fun _ => False) rfl rfl ?aO ?aR (fun _ _ h => h) (fun _ h => h.elim) ?aF ?aB ?aS ?aL ?_; (case aR => repeat (first | exact (by repeat (first | (with_reducible exact HR407.out) | (with_reducible refine Kd.C_alloc ?_ _) | (with_reducible refine Kd.C_drewN ?_ _) | (with_reducible refine Kd.C_drew ?_) | exact HR407.out)) | (with_reducible refine Kd.C_alloc ?_ _) | (with_reducible refine Kd.C_drewN ?_ _) | (with_reducible refine Kd.C_drew ?_))); (case aB => exact (bs HB.out)); (case aF => exact (fun k_ hk => ⟨(.inr (Nat.le_trans (by first | exact HK.out.1 | exact (show Kept w _ (fun k_ => P0_0_ k_ ∨ P0_1_ k_) from ts HK.out).1) hk)), Kd.fresh' (Kd.R_lt (rl HO_378001.out)) k_ hk, Kd.freshB (g := gb378) (o := .cells #[.int .i64 a1_0, .int .i64 a1_1, .int .i64 a1_2, .int .i64 a1_3, .int .i64 a1_4] 56 (0, 0)) (bf BK378.out) k_ hk⟩)); (case aO => exact (by (with_reducible repeat (first | apply Kd.R_alloc | apply Kd.R_drewN | apply Kd.R_drew)); exact Kd.R_mono HO403.out (fun _ hk => ⟨hk.1.1.1, ⟨hk.1.2, hk.2⟩⟩))); (case aS => exact (below_size (bs HB.out))); (case aL => have := LMc41.out; omega); intro v409 w52 ho hb hg hat; rw [← Ny408.out] at ho; replace HO_378000 := Aside0.mk (Kd.R_over' (rl HO_378000.out) (Kd.R_typed (rl HO403.out)) (by decide) hg); replace BK377 := gr BK377 HO403 hg; replace BK378 := Aside0.mk (blk_grown (g := gb378) (o := .cells #[.int .i64 a1_0, .int .i64 a1_1, .int .i64 a1_2, .int .i64 a1_3, .int .i64 a1_4] 56 (0, 0)) (bf BK378.out) hg (Kd.R_away HO403.out (fun _ hk => hk.2))); replace BK379 := gr BK379 HO403 hg; replace HB := Aside0.mk (hb); replace HK := Aside0.mk (Kept.of_grown (S := (fun k_ => P0_0_ k_ ∨ P0_1_ k_)) hg (ts HK.out) (fun k_ e_ => (HO403.out.1 k_ e_).1.1.1)); replace HR407 := Aside0.mk ((show Kd.C k56 w52 A51 y404.length y404 from by rw [Ny404.out, KA51.out]; exact Kd.C_drop (m := (x5_1 : Int).toNat) (c := co4) ((Kd.R_reads' (Kd.R_after (ok := (fun k_ => ((P0_0_ k_ ∨ P0_1_ k_) ∨ w.heap.size ≤ k_) ∧ k_ ≠ gb378)) (rl HO_378001.out) hg hat)).2.2) KL51.out ((Kd.R_reads' (Kd.R_after (ok := (fun k_ => ((P0_0_ k_ ∨ P0_1_ k_) ∨ w.heap.size ≤ k_) ∧ k_ ≠ gb378)) (rl HO_378001.out) hg hat)).2.1))); replace HO_378001 := Aside0.mk (Kd.R_after (ok := (fun k_ => ((P0_0_ k_ ∨ P0_1_ k_) ∨ w.heap.size ≤ k_) ∧ k_ ≠ gb378)) (rl HO_378001.out) hg hat); have HO410 := Aside0.mk (ho); clear HO403; clear ho hb hg hat))
         replace HO_378000 := rd_ HO_378000
         replace HO_378001 := rd_ HO_378001
         replace HO410 := rd_ HO410
         replace BK377 := bd BK377
         replace BK378 := bd BK378
         replace BK379 := bd BK379
         replace HR407 := Aside0.mk (Kd.C_drew HR407.out)
         replace HK := Aside0.mk (Kept.drew HK.out)
         replace HB := hd HB
         have q54 : (x5_1 : Int) ≤ ((l0_1.length : Int) : Int) := oda
         obtain ⟨i054, hi054, _, hsz54, _⟩ := info_parts info56
         have hcut54 := cut_to (P := Try.prog) 32 56 .i64 Try.underlying32 hi054 Ao4 l0_1.length co4 x5_1 (oda) q54 (Kd.R_reads' HO_378001.out).2.1
         have hr54 := Kd.R_take (m := (x5_1 : Int).toNat) HO_378001.out (by omega)
         have hy54 : y411.length = (x5_1 : Int).toNat := (by rw [Ny411.out, List.length_take]; omega)
         rw [← Ny411.out] at hr54
         rw [← hy54] at hr54 hcut54
         clear hy54 hi054 hsz54 HO_378001
         have HO413 := Aside0.mk hr54
         clear hr54
         replace q54 := eq_true q54
         refine start_ (n := 11) (S := fun w' => w'.cell? ⟨gb377, 0, none⟩ = some (.slice Ao3 l0_0.length co3) ∧ w'.cell? ⟨gb377, 1, none⟩ = some (.slice Ao4 l0_1.length co4) ∧ w'.cell? ⟨gb378, 0, none⟩ = some (.int .i64 a1_0) ∧ w'.cell? ⟨gb378, 1, none⟩ = some (.int .i64 a1_1) ∧ w'.cell? ⟨gb378, 2, none⟩ = some (.int .i64 a1_2) ∧ w'.cell? ⟨gb378, 3, none⟩ = some (.int .i64 a1_3) ∧ w'.cell? ⟨gb378, 4, none⟩ = some (.int .i64 a1_4)) (ds := [10]) #[false, false, false, false, false, false, false, false, false, false, false] (by kernel_rfl) rfl rfl ⟨(blk_cell BK377.out 0).trans rfl, (blk_cell BK377.out 1).trans rfl, (blk_cell BK378.out 0).trans rfl, (blk_cell BK378.out 1).trans rfl, (blk_cell BK378.out 2).trans rfl, (blk_cell BK378.out 3).trans rfl, (blk_cell BK378.out 4).trans rfl⟩ (fun hHeld => ?_); refine with_tabW spec_l2PutEdge.tab5 spec_l2PutEdge.bits5 (fun HT_ HW_ => ?_)
         generalize w52.drew = w53 at HO_378000 HO410 BK377 BK378 BK379 HR407 HK HB HO413 hHeld ⊢
         refine pu 0 29 ?_
         refine pu 2 31 ?_
         refine pu 7 36 ?_
         refine tk 1 30 ?_
         refine pu 3 32 ?_
         refine tk 4 33 ?_
         refine one_ (i := 5) (N := some 34) #[true, true, true, true, true, true, false, true, false, false, false] rfl rfl (one_of HT_.out (by kernel_rfl)) (by decide) (fun K hK => ?_)
         refine value_ (w1 := ?_) (v := ?_) (by rfl) rfl ?_ ?_
         rotate_left 2
         ·go_simp
          constructor
          ·rfl
          ·rfl
         refine hK.out _ _ ⟨(blk_cell (blk_alloc BK377.out _) 0).trans rfl, (blk_cell (blk_alloc BK377.out _) 1).trans rfl, (blk_cell (blk_alloc BK378.out _) 0).trans rfl, (blk_cell (blk_alloc BK378.out _) 1).trans rfl, (blk_cell (blk_alloc BK378.out _) 2).trans rfl, (blk_cell (blk_alloc BK378.out _) 3).trans rfl, (blk_cell (blk_alloc BK378.out _) 4).trans rfl⟩ (fun hHeld => ?_)
         clear hK K
         refine nrm 34 ?_
         refine one_ (i := 6) (N := some 35) #[true, true, true, true, true, true, true, true, false, false, false] rfl rfl (one_of HT_.out (by kernel_rfl)) (by decide) (fun K hK => ?_)
         refine Kd.R_append_step k56 (w0 := w0) w0.heap.size (by rfl) (.tmp 32) (.tmp 34) 32 56 (.agg #[(.int .i64 0), (.int .i64 0), (.int .i64 0), (.int .i64 0), (.int .i64 0)]) 40 rfl Try.underlying32 info56 rfl (by decide) (by omega) (.slice Ao4 y411.length co4) y411 (⟨a1_0, (⟨a1_1, a1_2⟩ : S36), (⟨a1_3, a1_4⟩ : S36)⟩ : S56) [.int .i64 a1_0, .int .i64 a1_1, .int .i64 a1_2, .int .i64 a1_3, .int .i64 a1_4] (fun k_ => ((P0_0_ k_ ∨ P0_1_ k_) ∨ w.heap.size ≤ k_) ∧ some k_ ≠ (v409 : Value).ownBlock ∧ k_ ≠ gb378) (fun _ => False) rfl rfl ?aP (fun _ hk => hk.elim) ?aF ?aO ?aB ?aS ?aL ?_
         (case aP => exact k56_mkM _ _ _ (⟨a1_0, (⟨a1_1, a1_2⟩ : S36), (⟨a1_3, a1_4⟩ : S36)⟩ : S56))
         (case aB => exact (bs HB.out))
         (case aF => exact (fun k_ hk => ⟨(.inr (Nat.le_trans (by first | exact HK.out.1 | exact (show Kept w _ (fun k_ => P0_0_ k_ ∨ P0_1_ k_) from ts HK.out).1) hk)), Kd.fresh' (Kd.R_lt (rl HO410.out)) k_ hk, Kd.freshB (g := gb378) (o := .cells #[.int .i64 a1_0, .int .i64 a1_1, .int .i64 a1_2, .int .i64 a1_3, .int .i64 a1_4] 56 (0, 0)) (bf BK378.out) k_ hk⟩))
         (case aO => exact (by (with_reducible repeat (first | apply Kd.R_alloc | apply Kd.R_drewN | apply Kd.R_drew)); exact Kd.R_mono HO413.out (fun _ hk => ⟨hk.1.1, ⟨hk.2, hk.1.2⟩⟩)))
         (case aS => exact (below_size (bs HB.out)))
         (case aL => have := LMc43.out; omega)
         intro v415 w55 ho hb hg hat
         rw [← Ny414.out] at ho
         replace HO_378000 := Aside0.mk (Kd.R_over' (rl HO_378000.out) (Kd.R_typed (rl HO413.out)) (by decide) hg)
         replace BK377 := gr BK377 HO413 hg
         replace BK378 := Aside0.mk (blk_grown (g := gb378) (o := .cells #[.int .i64 a1_0, .int .i64 a1_1, .int .i64 a1_2, .int .i64 a1_3, .int .i64 a1_4] 56 (0, 0)) (bf BK378.out) hg (Kd.R_away HO413.out (fun _ hk => hk.1.2)))
         replace BK379 := gr BK379 HO413 hg
         replace HO410 := Aside0.mk (Kd.R_after (ok := (fun k_ => ((P0_0_ k_ ∨ P0_1_ k_) ∨ w.heap.size ≤ k_) ∧ k_ ≠ gb378)) (by (with_reducible repeat (first | apply Kd.R_alloc | apply Kd.R_drewN | apply Kd.R_drew)); exact Kd.R_mono HO410.out (fun _ hk => ⟨⟨hk.1, hk.2.2⟩, fun e_ => hk.2.1 (e_.trans ob)⟩)) hg hat)
         replace HB := Aside0.mk (hb)
         replace HK := Aside0.mk (Kept.of_grown (S := (fun k_ => P0_0_ k_ ∨ P0_1_ k_)) hg (ts HK.out) (fun k_ e_ => (HO413.out.1 k_ e_).1.1))
         have HO416 := Aside0.mk (ho)
         clear HO413
         clear ho hb hg hat
         obtain ⟨Ao57, co57, eo57⟩ := Kd.R_slice HO410.out
         (first | subst eo57 | (injection eo57 with f1_ f2_ f3_; have f4_ := f1_.symm; have f5_ := f3_.symm; clear f1_ f2_ f3_; subst f4_; subst f5_))
         refine hK.out _ _ ⟨(blk_cell BK377.out 0).trans rfl, (blk_cell BK377.out 1).trans rfl, (blk_cell BK378.out 0).trans rfl, (blk_cell BK378.out 1).trans rfl, (blk_cell BK378.out 2).trans rfl, (blk_cell BK378.out 3).trans rfl, (blk_cell BK378.out 4).trans rfl⟩ (fun hHeld => ?_)
         clear hK K
         refine nrm 35 ?_
         refine one_ (i := 8) (N := some 37) #[true, true, true, true, true, true, true, true, true, false, false] rfl rfl (one_of HT_.out (by kernel_rfl)) (by decide) (fun K hK => ?_)
         refine Kd.R_append_rows_step k56 (w0 := w0) w0.heap.size (by rfl) (.tmp 35) (.tmp 36) 32 56 (.agg #[(.int .i64 0), (.int .i64 0), (.int .i64 0), (.int .i64 0), (.int .i64 0)]) 40 rfl Try.underlying32 info56 rfl (by decide) (by omega) v415 y414 y408 _ _ _ (fun k_ => ((P0_0_ k_ ∨ P0_1_ k_) ∨ w.heap.size ≤ k_) ∧ some k_ ≠ (.slice Ao57 y408.length co57 : Value).ownBlock ∧ k_ ≠ gb378) (fun _ => False) rfl rfl ?aO ?aR (fun _ _ h => h) (fun _ h => h.elim) ?aF ?aB ?aS ?aL ?_
         (case aR => exact cr HO410)
         (case aB => exact (bs HB.out))
         (case aF => exact (fun k_ hk => ⟨(.inr (Nat.le_trans (by first | exact HK.out.1 | exact (show Kept w _ (fun k_ => P0_0_ k_ ∨ P0_1_ k_) from ts HK.out).1) hk)), Kd.fresh' (Kd.R_lt (rl HO410.out)) k_ hk, Kd.freshB (g := gb378) (o := .cells #[.int .i64 a1_0, .int .i64 a1_1, .int .i64 a1_2, .int .i64 a1_3, .int .i64 a1_4] 56 (0, 0)) (bf BK378.out) k_ hk⟩))
         (case aO => exact (rl HO416.out))
         (case aS => exact (below_size (bs HB.out)))
         (case aL => have := LMc44.out; omega)
         intro v418 w56 ho hb hg hat
         rw [← Ny417.out] at ho
         replace HO_378000 := Aside0.mk (Kd.R_over' (rl HO_378000.out) (Kd.R_typed (rl HO416.out)) (by decide) hg)
         replace BK377 := gr BK377 HO416 hg
         replace BK378 := Aside0.mk (blk_grown (g := gb378) (o := .cells #[.int .i64 a1_0, .int .i64 a1_1, .int .i64 a1_2, .int .i64 a1_3, .int .i64 a1_4] 56 (0, 0)) (bf BK378.out) hg (Kd.R_away HO416.out (fun _ hk => hk.2.2)))
         replace BK379 := gr BK379 HO416 hg
         replace HO410 := Aside0.mk (Kd.R_after (ok := (fun k_ => ((P0_0_ k_ ∨ P0_1_ k_) ∨ w.heap.size ≤ k_) ∧ k_ ≠ gb378)) (rl HO410.out) hg hat)
         replace HB := Aside0.mk (hb)
         replace HK := Aside0.mk (Kept.of_grown (S := (fun k_ => P0_0_ k_ ∨ P0_1_ k_)) hg (ts HK.out) (fun k_ e_ => (HO416.out.1 k_ e_).1))
         have HO419 := Aside0.mk (ho)
         clear HO416
         clear ho hb hg hat
         obtain ⟨Ao58, co58, eo58⟩ := Kd.R_slice HO419.out
         (first | subst eo58 | (injection eo58 with f1_ f2_ f3_; have f4_ := f1_.symm; have f5_ := f3_.symm; clear f1_ f2_ f3_; subst f4_; subst f5_))
         refine hK.out _ _ ⟨(blk_cell BK377.out 0).trans rfl, (blk_cell BK377.out 1).trans rfl, (blk_cell BK378.out 0).trans rfl, (blk_cell BK378.out 1).trans rfl, (blk_cell BK378.out 2).trans rfl, (blk_cell BK378.out 3).trans rfl, (blk_cell BK378.out 4).trans rfl⟩ (fun hHeld => ?_)
         clear hK K
         refine nrm 37 ?_
         refine pu 9 38 ?_
         refine last_ (i := 10) (N := none) #[true, true, true, true, true, true, true, true, true, true, true] rfl rfl (one_of HT_.out (by kernel_rfl)) (by decide) (fun K hK => ?_)
         have hs59 : w56.cell? ⟨gb377, 1, none⟩ = some (.slice Ao4 l0_1.length co4) := (blk_cell BK377.out 1).trans rfl
         have hfs59 := blk_frozen BK377.out 1
         have hns59_1 := NB378_377.out
         have hns59_2 := NB379_377.out
         have hms59_1 := NB377_378.out
         have hms59_2 := NB377_379.out
         refine skip_ (w1 := ?_) (by rfl) rfl ?_ ?_
         rotate_left
         ·go_simp
          rfl
         refine hK.out _ _ ?_
         clear hK K
         refine done_ (done_of HT_.out (by kernel_rfl)) ?_
         obtain ⟨hcz60_0, hcz60_1⟩ := bc2 (w := w56) BK377.out
         have hfz60 := blk_frozen BK377.out
         have hnb61 := NB379_378.out
         have hnc61 := NB378_379.out
         obtain ⟨hcz62_0, hcz62_1⟩ := bc2 (w := w56) BK379.out
         have hfz62 := blk_frozen BK379.out
         try go_wp2
         refine bodyPost_ret (results_cell_row rfl _ _ gb379 34 #[.slice Ao3 l0_0.length co3, .slice Ao58 y417.length co58] (0, 0) _ rfl (bp BK379.out rfl) Try.underlying34 rfl (by kernel_rfl)) rfl ?_
         exact ⟨_, _, eqr, by (with_reducible repeat (first | apply Kd.R_alloc | apply Kd.R_drewN | apply Kd.R_drew)); exact Kd.R_mono (Kd.R_far (p := ⟨gb379, 1, none⟩) (Kd.R_far (p := ⟨gb379, 0, none⟩) (Kd.R_far (p := ⟨gb377, 1, none⟩) (Kd.R_types (Kd.R_types HO_378000.out BK377.out (by decide)) BK379.out (by decide)) (fun _ hk => hk.1.2) (.slice Ao58 y417.length co58)) (fun _ hk => hk.2) (.slice Ao3 l0_0.length co3)) (fun _ hk => hk.2) (.slice Ao58 y417.length co58)) (fun _ hk => hk.1.1), by (with_reducible repeat (first | apply Kd.R_alloc | apply Kd.R_drewN | apply Kd.R_drew)); exact Kd.R_mono (Kd.R_far (p := ⟨gb379, 1, none⟩) (Kd.R_far (p := ⟨gb379, 0, none⟩) (Kd.R_far (p := ⟨gb377, 1, none⟩) (Kd.R_types (Kd.R_types HO419.out BK377.out (by decide)) BK379.out (by decide)) (fun _ hk => hk.1.2) (.slice Ao58 y417.length co58)) (fun _ hk => hk.2) (.slice Ao3 l0_0.length co3)) (fun _ hk => hk.2) (.slice Ao58 y417.length co58)) (fun _ hk => hk.1.1.1), bs HB.out, ts HK.out⟩
        ·rw [if_neg c44] at H
         exact absurd H (by simp)
       ·rw [if_neg c43] at H
        exact absurd H (by simp)
      ·rw [if_neg c41] at H
       exact absurd H (by simp)
     ·rw [if_neg c40] at H
      exact absurd H (by simp)
    ·rw [if_neg c39] at H
     exact absurd H (by simp)

/-! ### spec_l2Cut: function 125 -/
def spec_l2Cut.l0 : Nat → List (S56) → Int → List (S36) → List (S56) → Int → Int → Int → Int → Int → Option ((List (S36)) × (List (S56)))
 | 0, _, _, _, _, _, _, _, _, _ => none
 | k + 1, x5, x6, x421000, x421001, x422000, x422001, x422002, x422003, x422004 => if x6 < (x421001.length : Int) then (if 0 ≤ x6 then (if (!(((rd_T56 x421001 x6).f0) == x422000) || ((!(((rd_T56 x421001 x6).f1.f0) == x422001) || (!(((rd_T56 x421001 x6).f1.f1) == x422002))) || ((!(((rd_T56 x421001 x6).f2.f0) == x422003) || (!(((rd_T56 x421001 x6).f2.f1) == x422004)))))) = true then (if x5.length < 3518437208883 then (spec_l2Cut.l0 k (x5 ++ [(⟨(rd_T56 x421001 x6).f0, (⟨(rd_T56 x421001 x6).f1.f0, (rd_T56 x421001 x6).f1.f1⟩ : S36), (⟨(rd_T56 x421001 x6).f2.f0, (rd_T56 x421001 x6).f2.f1⟩ : S36)⟩ : S56)]) (wrap64 (x6 + 1)) x421000 x421001 x422000 x422001 x422002 x422003 x422004) else (none)) else (spec_l2Cut.l0 k x5 (wrap64 (x6 + 1)) x421000 x421001 x422000 x422001 x422002 x422003 x422004)) else (none)) else (some (x421000, x5))
def spec_l2Cut.f (k : Nat) (l0_0 : List (S36)) (l0_1 : List (S56)) (a1_0 : Int) (a1_1 : Int) (a1_2 : Int) (a1_3 : Int) (a1_4 : Int) : Option ((List (S36)) × (List (S56))) := spec_l2Cut.l0 k (([] : List (S56))) 0 l0_0 l0_1 a1_0 a1_1 a1_2 a1_3 a1_4
theorem spec_l2Cut.calls (k : Nat) (P0_0_ : Nat → Prop) (u9000_ : Value) (l0_0 : List (S36)) (A0_1 : Option Addr) (c0_1 : Nat) (l0_1 : List (S56)) (a1_0 : Int) (a1_1 : Int) (a1_2 : Int) (a1_3 : Int) (a1_4 : Int) (r1 : List (S36)) (r2 : List (S56)) (w0 w : World) (hB : Below w0.heap.size w0 w) (ho0_0 : Kd.R k36 36 w w0.heap.size P0_0_ u9000_ l0_0) (hr0_1 : ∀ W_, Kept w W_ (fun k_ => P0_0_ k_) → Kd.C k56 W_ A0_1 l0_1.length l0_1) (hc0_1 : l0_1.length ≤ c0_1) (h : spec_l2Cut.f k l0_0 l0_1 a1_0 a1_1 a1_2 a1_3 a1_4 = some (r1, r2)) :
  Calls Try.prog 125 #[.agg #[u9000_, .slice A0_1 l0_1.length c0_1], .agg #[.int .i64 a1_0, .int .i64 a1_1, .int .i64 a1_2, .int .i64 a1_3, .int .i64 a1_4]] w fun e w' => ∃ v0_ v1_ : Value, e = .returned (.agg #[v0_, v1_]) ∧ Kd.R k36 36 w' w0.heap.size (fun k_ => (P0_0_ k_ ∨ w.heap.size ≤ k_)) v0_ r1 ∧ Kd.R k56 56 w' w0.heap.size (fun k_ => (P0_0_ k_ ∨ w.heap.size ≤ k_)) v1_ r2 ∧ Below w0.heap.size w0 w' ∧ Kept w w' (fun k_ => P0_0_ k_) := by
 have hu34 := Try.underlying34
 have hu56 := Try.underlying56
 have HO0_0 := Aside0.mk (show Kd.R k36 36 w w0.heap.size (fun k_ => (P0_0_ k_ ∨ w.heap.size ≤ k_)) u9000_ l0_0 from Kd.R_mono ho0_0 (fun k_ hk => (.inl hk)))
 have HR0_1 := Aside0.mk hr0_1
 have HC0_1 := Aside0.mk hc0_1
 clear hr0_1 hc0_1
 have HK := Aside0.mk (Kept.refl w (fun k_ => P0_0_ k_))
 have HW0 := Aside0.mk hB.size
 have HB := Aside0.mk hB
 clear hB
 have H := h; unfold spec_l2Cut.f at H
 clear h
 obtain ⟨y423, hy423⟩ : ∃ y_ : List (S56), y_ = (([] : List (S56))) := ⟨_, rfl⟩
 replace H : (spec_l2Cut.l0 k y423 0 l0_0 l0_1 a1_0 a1_1 a1_2 a1_3 a1_4) = some (r1, r2) := by first | (rw [hy423]; exact H) | exact H
 have Ny423 := Aside0.mk hy423
 clear hy423
 have H' := Aside0.mk H
 clear H
 obtain ⟨Ao3, co3, eo3⟩ := Kd.R_slice HO0_0.out
 subst eo3
 go_enter Try.func125, Try.ntmps125
 go_wp2_with (first | ((with_reducible refine gd 2 rfl ?_); refine bx 2 (cs := #[.slice Ao3 l0_0.length co3, .slice A0_1 l0_1.length c0_1]) (t := 34) ?_; intro gb420 hg w4 hbox hb; replace HO0_0 := rb HO0_0 hb; have BK420 := Aside0.mk (hbox); have GW420 := Ge.mk ((by rw [hg]; exact (by first | exact HK.out.1 | exact (show Kept w _ (fun k_ => P0_0_ k_) from ts HK.out).1) : w.heap.size ≤ gb420)); replace HK := kl HK hb; have GE420 := gwb HB hg; replace HB := hs HB hb; clear hb hbox hg) | ((with_reducible refine gd 3 rfl ?_); refine bx 3 (cs := #[.int .i64 a1_0, .int .i64 a1_1, .int .i64 a1_2, .int .i64 a1_3, .int .i64 a1_4]) (t := 56) ?_; intro gb421 hg w5 hbox hb; replace HO0_0 := rb HO0_0 hb; have BK421 := Aside0.mk (hbox); have GW421 := Ge.mk ((by rw [hg]; exact (by first | exact HK.out.1 | exact (show Kept w _ (fun k_ => P0_0_ k_) from ts HK.out).1) : w.heap.size ≤ gb421)); replace HK := kl HK hb; have GE421 := gwb HB hg; replace HB := hs HB hb; have NB420_421 := nq BK420 hg; have NB421_420 := nq' BK420 hg; replace BK420 := bb BK420 hb rfl; clear hb hbox hg) | ((with_reducible refine gd 4 rfl ?_); refine bx 4 (cs := #[.slice none 0 0, .slice none 0 0]) (t := 34) ?_; intro gb422 hg w6 hbox hb; replace HO0_0 := rb HO0_0 hb; have BK422 := Aside0.mk (hbox); have GW422 := Ge.mk ((by rw [hg]; exact (by first | exact HK.out.1 | exact (show Kept w _ (fun k_ => P0_0_ k_) from ts HK.out).1) : w.heap.size ≤ gb422)); replace HK := kl HK hb; have GE422 := gwb HB hg; replace HB := hs HB hb; have NB420_422 := nq BK420 hg; have NB422_420 := nq' BK420 hg; replace BK420 := bb BK420 hb rfl; have NB421_422 := nq BK421 hg; have NB422_421 := nq' BK421 hg; replace BK421 := bb BK421 hb rfl; clear hb hbox hg) | ((with_reducible refine gd 7 rfl ?_); refine Kd.R_lit k56 _ 56 ?hg (N := 7) ?hd (xs := ([] : List (S56))) (inner := []) (ok := fun _ => True) (okp := fun _ => True) ?hr ?hp (fun _ hk => hk) trivial (Below.refl _ _) (Nat.le_refl _) (by simp) ?_; (case hd => rfl); (case hg => rfl); (case hr => first | (go_simp; done) | (go_simp; rfl)); (case hp => exact (Reps.none _ _)); intro v424 w7 ho8 hb hg_ hnew_; clear hg_ hnew_; (first | rw [← Ny423.out] at ho8 | (simp only [Int.reduceToNat] at ho8; rw [← Ny423.out] at ho8)); replace HO0_0 := rb HO0_0 hb; have HO425 := Aside0.mk (Kd.R_lower (Kd.R_newB (Kd.R_newM (M := fun k_ => (P0_0_ k_ ∨ w.heap.size ≤ k_)) ho8 (by first | exact HK.out.1 | exact (show Kept w _ (fun k_ => P0_0_ k_) from ts HK.out).1) (fun k_ h_ => .inr h_)) (g := gb421) (o := .cells #[.int .i64 a1_0, .int .i64 a1_1, .int .i64 a1_2, .int .i64 a1_3, .int .i64 a1_4] 56 (0, 0)) (bf BK421.out)) (below_size (bs HB.out))); replace BK420 := bb BK420 hb rfl; replace BK421 := bb BK421 hb rfl; replace BK422 := bb BK422 hb rfl; replace HK := kl HK hb; replace HB := hs HB hb; clear hb ho8))
 repeat (go_quiet (first | ((with_reducible refine gd 2 rfl ?_); refine bx 2 (cs := #[.slice Ao3 l0_0.length co3, .slice A0_1 l0_1.length c0_1]) (t := 34) ?_; intro gb420 hg w4 hbox hb; replace HO0_0 := rb HO0_0 hb; have BK420 := Aside0.mk (hbox); have GW420 := Ge.mk ((by rw [hg]; exact (by first | exact HK.out.1 | exact (show Kept w _ (fun k_ => P0_0_ k_) from ts HK.out).1) : w.heap.size ≤ gb420)); replace HK := kl HK hb; have GE420 := gwb HB hg; replace HB := hs HB hb; clear hb hbox hg) | ((with_reducible refine gd 3 rfl ?_); refine bx 3 (cs := #[.int .i64 a1_0, .int .i64 a1_1, .int .i64 a1_2, .int .i64 a1_3, .int .i64 a1_4]) (t := 56) ?_; intro gb421 hg w5 hbox hb; replace HO0_0 := rb HO0_0 hb; have BK421 := Aside0.mk (hbox); have GW421 := Ge.mk ((by rw [hg]; exact (by first | exact HK.out.1 | exact (show Kept w _ (fun k_ => P0_0_ k_) from ts HK.out).1) : w.heap.size ≤ gb421)); replace HK := kl HK hb; have GE421 := gwb HB hg; replace HB := hs HB hb; have NB420_421 := nq BK420 hg; have NB421_420 := nq' BK420 hg; replace BK420 := bb BK420 hb rfl; clear hb hbox hg) | ((with_reducible refine gd 4 rfl ?_); refine bx 4 (cs := #[.slice none 0 0, .slice none 0 0]) (t := 34) ?_; intro gb422 hg w6 hbox hb; replace HO0_0 := rb HO0_0 hb; have BK422 := Aside0.mk (hbox); have GW422 := Ge.mk ((by rw [hg]; exact (by first | exact HK.out.1 | exact (show Kept w _ (fun k_ => P0_0_ k_) from ts HK.out).1) : w.heap.size ≤ gb422)); replace HK := kl HK hb; have GE422 := gwb HB hg; replace HB := hs HB hb; have NB420_422 := nq BK420 hg; have NB422_420 := nq' BK420 hg; replace BK420 := bb BK420 hb rfl; have NB421_422 := nq BK421 hg; have NB422_421 := nq' BK421 hg; replace BK421 := bb BK421 hb rfl; clear hb hbox hg) | ((with_reducible refine gd 7 rfl ?_); refine Kd.R_lit k56 _ 56 ?hg (N := 7) ?hd (xs := ([] : List (S56))) (inner := []) (ok := fun _ => True) (okp := fun _ => True) ?hr ?hp (fun _ hk => hk) trivial (Below.refl _ _) (Nat.le_refl _) (by simp) ?_; (case hd => rfl); (case hg => rfl); (case hr => first | (go_simp; done) | (go_simp; rfl)); (case hp => exact (Reps.none _ _)); intro v424 w7 ho8 hb hg_ hnew_; clear hg_ hnew_; (first | rw [← Ny423.out] at ho8 | (simp only [Int.reduceToNat] at ho8; rw [← Ny423.out] at ho8)); replace HO0_0 := rb HO0_0 hb; have HO425 := Aside0.mk (Kd.R_lower (Kd.R_newB (Kd.R_newM (M := fun k_ => (P0_0_ k_ ∨ w.heap.size ≤ k_)) ho8 (by first | exact HK.out.1 | exact (show Kept w _ (fun k_ => P0_0_ k_) from ts HK.out).1) (fun k_ h_ => .inr h_)) (g := gb421) (o := .cells #[.int .i64 a1_0, .int .i64 a1_1, .int .i64 a1_2, .int .i64 a1_3, .int .i64 a1_4] 56 (0, 0)) (bf BK421.out)) (below_size (bs HB.out))); replace BK420 := bb BK420 hb rfl; replace BK421 := bb BK421 hb rfl; replace BK422 := bb BK422 hb rfl; replace HK := kl HK hb; replace HB := hs HB hb; clear hb ho8)); try go_wp2_with (first | ((with_reducible refine gd 2 rfl ?_); refine bx 2 (cs := #[.slice Ao3 l0_0.length co3, .slice A0_1 l0_1.length c0_1]) (t := 34) ?_; intro gb420 hg w4 hbox hb; replace HO0_0 := rb HO0_0 hb; have BK420 := Aside0.mk (hbox); have GW420 := Ge.mk ((by rw [hg]; exact (by first | exact HK.out.1 | exact (show Kept w _ (fun k_ => P0_0_ k_) from ts HK.out).1) : w.heap.size ≤ gb420)); replace HK := kl HK hb; have GE420 := gwb HB hg; replace HB := hs HB hb; clear hb hbox hg) | ((with_reducible refine gd 3 rfl ?_); refine bx 3 (cs := #[.int .i64 a1_0, .int .i64 a1_1, .int .i64 a1_2, .int .i64 a1_3, .int .i64 a1_4]) (t := 56) ?_; intro gb421 hg w5 hbox hb; replace HO0_0 := rb HO0_0 hb; have BK421 := Aside0.mk (hbox); have GW421 := Ge.mk ((by rw [hg]; exact (by first | exact HK.out.1 | exact (show Kept w _ (fun k_ => P0_0_ k_) from ts HK.out).1) : w.heap.size ≤ gb421)); replace HK := kl HK hb; have GE421 := gwb HB hg; replace HB := hs HB hb; have NB420_421 := nq BK420 hg; have NB421_420 := nq' BK420 hg; replace BK420 := bb BK420 hb rfl; clear hb hbox hg) | ((with_reducible refine gd 4 rfl ?_); refine bx 4 (cs := #[.slice none 0 0, .slice none 0 0]) (t := 34) ?_; intro gb422 hg w6 hbox hb; replace HO0_0 := rb HO0_0 hb; have BK422 := Aside0.mk (hbox); have GW422 := Ge.mk ((by rw [hg]; exact (by first | exact HK.out.1 | exact (show Kept w _ (fun k_ => P0_0_ k_) from ts HK.out).1) : w.heap.size ≤ gb422)); replace HK := kl HK hb; have GE422 := gwb HB hg; replace HB := hs HB hb; have NB420_422 := nq BK420 hg; have NB422_420 := nq' BK420 hg; replace BK420 := bb BK420 hb rfl; have NB421_422 := nq BK421 hg; have NB422_421 := nq' BK421 hg; replace BK421 := bb BK421 hb rfl; clear hb hbox hg) | ((with_reducible refine gd 7 rfl ?_); refine Kd.R_lit k56 _ 56 ?hg (N := 7) ?hd (xs := ([] : List (S56))) (inner := []) (ok := fun _ => True) (okp := fun _ => True) ?hr ?hp (fun _ hk => hk) trivial (Below.refl _ _) (Nat.le_refl _) (by simp) ?_; (case hd => rfl); (case hg => rfl); (case hr => first | (go_simp; done) | (go_simp; rfl)); (case hp => exact (Reps.none _ _)); intro v424 w7 ho8 hb hg_ hnew_; clear hg_ hnew_; (first | rw [← Ny423.out] at ho8 | (simp only [Int.reduceToNat] at ho8; rw [← Ny423.out] at ho8)); replace HO0_0 := rb HO0_0 hb; have HO425 := Aside0.mk (Kd.R_lower (Kd.R_newB (Kd.R_newM (M := fun k_ => (P0_0_ k_ ∨ w.heap.size ≤ k_)) ho8 (by first | exact HK.out.1 | exact (show Kept w _ (fun k_ => P0_0_ k_) from ts HK.out).1) (fun k_ h_ => .inr h_)) (g := gb421) (o := .cells #[.int .i64 a1_0, .int .i64 a1_1, .int .i64 a1_2, .int .i64 a1_3, .int .i64 a1_4] 56 (0, 0)) (bf BK421.out)) (below_size (bs HB.out))); replace BK420 := bb BK420 hb rfl; replace BK421 := bb BK421 hb rfl; replace BK422 := bb BK422 hb rfl; replace HK := kl HK hb; replace HB := hs HB hb; clear hb ho8)))
 go_loopg [5, 6] k (fun kq v5 v6 w' => ∃ (x5_1 : List (S56)) (x6_1 : Int), v6 = .int .i64 x6_1 ∧ Aside0 (spec_l2Cut.l0 kq x5_1 x6_1 l0_0 l0_1 a1_0 a1_1 a1_2 a1_3 a1_4 = some (r1, r2)) ∧ Aside0 (kq ≤ k) ∧ Aside0 (Kd.R k56 56 w' w0.heap.size (fun k_ => (P0_0_ k_ ∨ w.heap.size ≤ k_) ∧ k_ ≠ gb421) v5 x5_1) ∧ Aside0 (Kd.R k36 36 w' w0.heap.size (fun k_ => (P0_0_ k_ ∨ w.heap.size ≤ k_)) (.slice Ao3 l0_0.length co3) l0_0) ∧ Aside0 (w'.heap[gb420]? = some (.cells #[(.slice Ao3 l0_0.length co3), (.slice A0_1 l0_1.length c0_1)] 34 (0, 0))) ∧ Aside0 (w'.heap[gb421]? = some (.cells #[.int .i64 a1_0, .int .i64 a1_1, .int .i64 a1_2, .int .i64 a1_3, .int .i64 a1_4] 56 (0, 0))) ∧ Aside0 (w'.heap[gb422]? = some (.cells #[(.slice none 0 0), (.slice none 0 0)] 34 (0, 0))) ∧ Aside0 (Kept w w' (fun k_ => P0_0_ k_)) ∧ Aside0 (Below w0.heap.size w0 w'))
 case atStart => exact ⟨(y423), (0), eqs, H', ⟨Nat.le_refl _⟩, ⟨by (with_reducible repeat (first | apply Kd.R_alloc | apply Kd.R_drewN | apply Kd.R_drew)); exact Kd.R_mono HO425.out (fun _ hk => ⟨hk.1.1, hk.2⟩)⟩, ⟨rl HO0_0.out⟩, ⟨bf BK420.out⟩, ⟨bf BK421.out⟩, ⟨bf BK422.out⟩, ⟨ts HK.out⟩, ⟨bs HB.out⟩⟩
 case round =>
  clear H'
  try clear c1
  try clear p2
  obtain ⟨x5_1, x6_1, rfl, HA, HK1, HO_5, HO_421000, BK420, BK421, BK422, HK, HB⟩ := hrel
  cases gk with
  | zero => exact absurd HA.out (by simp [spec_l2Cut.l0])
  | succ k1 =>
   have H := HA.out
   clear HA
   simp only [spec_l2Cut.l0] at H
   by_cases c9 : x6_1 < (l0_1.length : Int)
   ·rw [if_pos c9] at H
    have c9b0 : decide (x6_1 < (l0_1.length : Int)) = true := decide_eq_true c9
    clear c9
    by_cases c10 : 0 ≤ x6_1
    ·rw [if_pos c10] at H
     have c10b0 : decide (0 ≤ x6_1) = true := decide_eq_true c10
     clear c10
     by_cases c11 : (!(((rd_T56 l0_1 x6_1).f0) == a1_0) || ((!(((rd_T56 l0_1 x6_1).f1.f0) == a1_1) || (!(((rd_T56 l0_1 x6_1).f1.f1) == a1_2))) || ((!(((rd_T56 l0_1 x6_1).f2.f0) == a1_3) || (!(((rd_T56 l0_1 x6_1).f2.f1) == a1_4)))))) = true
     ·rw [if_pos c11] at H
      have c11b0 : (!(((rd_T56 l0_1 x6_1).f0) == a1_0) || ((!(((rd_T56 l0_1 x6_1).f1.f0) == a1_1) || (!(((rd_T56 l0_1 x6_1).f1.f1) == a1_2))) || ((!(((rd_T56 l0_1 x6_1).f2.f0) == a1_3) || (!(((rd_T56 l0_1 x6_1).f2.f1) == a1_4)))))) = true := c11
      clear c11
      by_cases c12 : x5_1.length < 3518437208883
      ·rw [if_pos c12] at H
       have LMc12 := Aside0.mk c12
       clear c12
       obtain ⟨y428, hy428⟩ : ∃ y_ : List (S56), y_ = (x5_1 ++ [(⟨(rd_T56 l0_1 x6_1).f0, (⟨(rd_T56 l0_1 x6_1).f1.f0, (rd_T56 l0_1 x6_1).f1.f1⟩ : S36), (⟨(rd_T56 l0_1 x6_1).f2.f0, (rd_T56 l0_1 x6_1).f2.f1⟩ : S36)⟩ : S56)]) := ⟨_, rfl⟩
       replace H : (spec_l2Cut.l0 k1 y428 (wrap64 (x6_1 + 1)) l0_0 l0_1 a1_0 a1_1 a1_2 a1_3 a1_4) = some (r1, r2) := by first | (rw [hy428]; exact H) | exact H
       have Ny428 := Aside0.mk hy428
       clear hy428
       have H' := Aside0.mk H
       clear H
       have hnb13 := NB420_421.out
       have hnc13 := NB421_420.out
       have hnb14 := NB420_422.out
       have hnc14 := NB422_420.out
       obtain ⟨hcz15_0, hcz15_1⟩ := bc2 (w := wr) BK420.out
       have hfz15 := blk_frozen BK420.out
       have p426 : 0 ≤ (x6_1 : Int) := oda
       have q426 : x6_1 < (l0_1.length : Int) := oda
       obtain ⟨ad426, e426, hx426_0, hx426_1, hx426_2, hx426_3, hx426_4⟩ := at_T56 (Kd.C_kept_now HR0_1.out HK.out) x6_1 p426 q426
       cases e426
       replace p426 := eq_true p426
       replace q426 := eq_true q426
       have hnb16 := NB421_422.out
       have hnc16 := NB422_421.out
       obtain ⟨hcz17_0, hcz17_1, hcz17_2, hcz17_3, hcz17_4⟩ := bc5 (w := wr) BK421.out
       have hfz17 := blk_frozen BK421.out
       have p427 : 0 ≤ (x6_1 : Int) := oda
       have q427 : x6_1 < (l0_1.length : Int) := oda
       obtain ⟨ad427, e427, hx427_0, hx427_1, hx427_2, hx427_3, hx427_4⟩ := at_T56 (Kd.C_kept_now HR0_1.out HK.out) x6_1 p427 q427
       obtain rfl : ad426 = ad427 := (by injection e427)
       replace p427 := eq_true p427
       replace q427 := eq_true q427
       go_wp2_with (first | ((with_reducible refine gate_builtin (b := .append) (xs := #[.tmp 22, .tmp 28]) rfl ?_); at_builtin; refine Kd.R_append k56 (w0 := w0) w0.heap.size rfl (.tmp 22) (.tmp 28) 32 56 (.agg #[(.int .i64 0), (.int .i64 0), (.int .i64 0), (.int .i64 0), (.int .i64 0)]) 40 rfl Try.underlying32 info56 rfl (by decide) (by omega) u5 x5_1 (⟨(rd_T56 l0_1 x6_1).f0, (⟨(rd_T56 l0_1 x6_1).f1.f0, (rd_T56 l0_1 x6_1).f1.f1⟩ : S36), (⟨(rd_T56 l0_1 x6_1).f2.f0, (rd_T56 l0_1 x6_1).f2.f1⟩ : S36)⟩ : S56) [.int .i64 ((rd_T56 l0_1 x6_1).f0), .int .i64 ((rd_T56 l0_1 x6_1).f1.f0), .int .i64 ((rd_T56 l0_1 x6_1).f1.f1), .int .i64 ((rd_T56 l0_1 x6_1).f2.f0), .int .i64 ((rd_T56 l0_1 x6_1).f2.f1)] (fun k_ => (P0_0_ k_ ∨ w.heap.size ≤ k_) ∧ k_ ≠ gb421) (fun _ => False) rfl rfl ?aP (fun _ hk => hk.elim) ?aF ?aO ?aB ?aS ?aL ?_; (case aP => exact k56_mkM _ _ _ (⟨(rd_T56 l0_1 x6_1).f0, (⟨(rd_T56 l0_1 x6_1).f1.f0, (rd_T56 l0_1 x6_1).f1.f1⟩ : S36), (⟨(rd_T56 l0_1 x6_1).f2.f0, (rd_T56 l0_1 x6_1).f2.f1⟩ : S36)⟩ : S56)); (case aB => exact (bs HB.out)); (case aF => exact (fun k_ hk => ⟨(.inr (Nat.le_trans (by first | exact HK.out.1 | exact (show Kept w _ (fun k_ => P0_0_ k_) from ts HK.out).1) hk)), Kd.freshB (g := gb421) (o := .cells #[.int .i64 a1_0, .int .i64 a1_1, .int .i64 a1_2, .int .i64 a1_3, .int .i64 a1_4] 56 (0, 0)) (bf BK421.out) k_ hk⟩)); (case aO => exact (rl HO_5.out)); (case aS => exact (below_size (bs HB.out))); (case aL => have := LMc12.out; omega); intro v429 w18 ho hb hg hat; rw [← Ny428.out] at ho; replace HO_421000 := Aside0.mk (Kd.R_over' (rl HO_421000.out) (Kd.R_typed (rl HO_5.out)) (by decide) hg); replace BK420 := gr BK420 HO_5 hg; replace BK421 := Aside0.mk (blk_grown (g := gb421) (o := .cells #[.int .i64 a1_0, .int .i64 a1_1, .int .i64 a1_2, .int .i64 a1_3, .int .i64 a1_4] 56 (0, 0)) (bf BK421.out) hg (Kd.R_away HO_5.out (fun _ hk => hk.2))); replace BK422 := gr BK422 HO_5 hg; replace HB := Aside0.mk (hb); replace HK := Aside0.mk (Kept.of_grown (S := (fun k_ => P0_0_ k_)) hg (ts HK.out) (fun k_ e_ => (HO_5.out.1 k_ e_).1)); have HO430 := Aside0.mk (ho); clear HO_5; clear ho hb hg hat))
       repeat (go_quiet (first | ((with_reducible refine gate_builtin (b := .append) (xs := #[.tmp 22, .tmp 28]) rfl ?_); at_builtin; refine Kd.R_append k56 (w0 := w0) w0.heap.size rfl (.tmp 22) (.tmp 28) 32 56 (.agg #[(.int .i64 0), (.int .i64 0), (.int .i64 0), (.int .i64 0), (.int .i64 0)]) 40 rfl Try.underlying32 info56 rfl (by decide) (by omega) u5 x5_1 (⟨(rd_T56 l0_1 x6_1).f0, (⟨(rd_T56 l0_1 x6_1).f1.f0, (rd_T56 l0_1 x6_1).f1.f1⟩ : S36), (⟨(rd_T56 l0_1 x6_1).f2.f0, (rd_T56 l0_1 x6_1).f2.f1⟩ : S36)⟩ : S56) [.int .i64 ((rd_T56 l0_1 x6_1).f0), .int .i64 ((rd_T56 l0_1 x6_1).f1.f0), .int .i64 ((rd_T56 l0_1 x6_1).f1.f1), .int .i64 ((rd_T56 l0_1 x6_1).f2.f0), .int .i64 ((rd_T56 l0_1 x6_1).f2.f1)] (fun k_ => (P0_0_ k_ ∨ w.heap.size ≤ k_) ∧ k_ ≠ gb421) (fun _ => False) rfl rfl ?aP (fun _ hk => hk.elim) ?aF ?aO ?aB ?aS ?aL ?_; (case aP => exact k56_mkM _ _ _ (⟨(rd_T56 l0_1 x6_1).f0, (⟨(rd_T56 l0_1 x6_1).f1.f0, (rd_T56 l0_1 x6_1).f1.f1⟩ : S36), (⟨(rd_T56 l0_1 x6_1).f2.f0, (rd_T56 l0_1 x6_1).f2.f1⟩ : S36)⟩ : S56)); (case aB => exact (bs HB.out)); (case aF => exact (fun k_ hk => ⟨(.inr (Nat.le_trans (by first | exact HK.out.1 | exact (show Kept w _ (fun k_ => P0_0_ k_) from ts HK.out).1) hk)), Kd.freshB (g := gb421) (o := .cells #[.int .i64 a1_0, .int .i64 a1_1, .int .i64 a1_2, .int .i64 a1_3, .int .i64 a1_4] 56 (0, 0)) (bf BK421.out) k_ hk⟩)); (case aO => exact (rl HO_5.out)); (case aS => exact (below_size (bs HB.out))); (case aL => have := LMc12.out; omega); intro v429 w18 ho hb hg hat; rw [← Ny428.out] at ho; replace HO_421000 := Aside0.mk (Kd.R_over' (rl HO_421000.out) (Kd.R_typed (rl HO_5.out)) (by decide) hg); replace BK420 := gr BK420 HO_5 hg; replace BK421 := Aside0.mk (blk_grown (g := gb421) (o := .cells #[.int .i64 a1_0, .int .i64 a1_1, .int .i64 a1_2, .int .i64 a1_3, .int .i64 a1_4] 56 (0, 0)) (bf BK421.out) hg (Kd.R_away HO_5.out (fun _ hk => hk.2))); replace BK422 := gr BK422 HO_5 hg; replace HB := Aside0.mk (hb); replace HK := Aside0.mk (Kept.of_grown (S := (fun k_ => P0_0_ k_)) hg (ts HK.out) (fun k_ e_ => (HO_5.out.1 k_ e_).1)); have HO430 := Aside0.mk (ho); clear HO_5; clear ho hb hg hat)); try go_wp2_with (first | ((with_reducible refine gate_builtin (b := .append) (xs := #[.tmp 22, .tmp 28]) rfl ?_); at_builtin; refine Kd.R_append k56 (w0 := w0) w0.heap.size rfl (.tmp 22) (.tmp 28) 32 56 (.agg #[(.int .i64 0), (.int .i64 0), (.int .i64 0), (.int .i64 0), (.int .i64 0)]) 40 rfl Try.underlying32 info56 rfl (by decide) (by omega) u5 x5_1 (⟨(rd_T56 l0_1 x6_1).f0, (⟨(rd_T56 l0_1 x6_1).f1.f0, (rd_T56 l0_1 x6_1).f1.f1⟩ : S36), (⟨(rd_T56 l0_1 x6_1).f2.f0, (rd_T56 l0_1 x6_1).f2.f1⟩ : S36)⟩ : S56) [.int .i64 ((rd_T56 l0_1 x6_1).f0), .int .i64 ((rd_T56 l0_1 x6_1).f1.f0), .int .i64 ((rd_T56 l0_1 x6_1).f1.f1), .int .i64 ((rd_T56 l0_1 x6_1).f2.f0), .int .i64 ((rd_T56 l0_1 x6_1).f2.f1)] (fun k_ => (P0_0_ k_ ∨ w.heap.size ≤ k_) ∧ k_ ≠ gb421) (fun _ => False) rfl rfl ?aP (fun _ hk => hk.elim) ?aF ?aO ?aB ?aS ?aL ?_; (case aP => exact k56_mkM _ _ _ (⟨(rd_T56 l0_1 x6_1).f0, (⟨(rd_T56 l0_1 x6_1).f1.f0, (rd_T56 l0_1 x6_1).f1.f1⟩ : S36), (⟨(rd_T56 l0_1 x6_1).f2.f0, (rd_T56 l0_1 x6_1).f2.f1⟩ : S36)⟩ : S56)); (case aB => exact (bs HB.out)); (case aF => exact (fun k_ hk => ⟨(.inr (Nat.le_trans (by first | exact HK.out.1 | exact (show Kept w _ (fun k_ => P0_0_ k_) from ts HK.out).1) hk)), Kd.freshB (g := gb421) (o := .cells #[.int .i64 a1_0, .int .i64 a1_1, .int .i64 a1_2, .int .i64 a1_3, .int .i64 a1_4] 56 (0, 0)) (bf BK421.out) k_ hk⟩)); (case aO => exact (rl HO_5.out)); (case aS => exact (below_size (bs HB.out))); (case aL => have := LMc12.out; omega); intro v429 w18 ho hb hg hat; rw [← Ny428.out] at ho; replace HO_421000 := Aside0.mk (Kd.R_over' (rl HO_421000.out) (Kd.R_typed (rl HO_5.out)) (by decide) hg); replace BK420 := gr BK420 HO_5 hg; replace BK421 := Aside0.mk (blk_grown (g := gb421) (o := .cells #[.int .i64 a1_0, .int .i64 a1_1, .int .i64 a1_2, .int .i64 a1_3, .int .i64 a1_4] 56 (0, 0)) (bf BK421.out) hg (Kd.R_away HO_5.out (fun _ hk => hk.2))); replace BK422 := gr BK422 HO_5 hg; replace HB := Aside0.mk (hb); replace HK := Aside0.mk (Kept.of_grown (S := (fun k_ => P0_0_ k_)) hg (ts HK.out) (fun k_ e_ => (HO_5.out.1 k_ e_).1)); have HO430 := Aside0.mk (ho); clear HO_5; clear ho hb hg hat)))
       go_roundg k1
       case measure => have := HK1.out; omega
       case rel => exact ⟨(y428), (wrap64 (x6_1 + 1)), eqs, H', ⟨by have := HK1.out; omega⟩, ⟨rl HO430.out⟩, ⟨rl HO_421000.out⟩, ⟨bf BK420.out⟩, ⟨bf BK421.out⟩, ⟨bf BK422.out⟩, ⟨ts HK.out⟩, ⟨bs HB.out⟩⟩
      ·rw [if_neg c12] at H
       exact absurd H (by simp)
     ·rw [if_neg c11] at H
      have c11b0 : (!(((rd_T56 l0_1 x6_1).f0) == a1_0) || ((!(((rd_T56 l0_1 x6_1).f1.f0) == a1_1) || (!(((rd_T56 l0_1 x6_1).f1.f1) == a1_2))) || ((!(((rd_T56 l0_1 x6_1).f2.f0) == a1_3) || (!(((rd_T56 l0_1 x6_1).f2.f1) == a1_4)))))) = false := by simpa using c11
      clear c11
      have H' := Aside0.mk H
      clear H
      have hnb19 := NB420_421.out
      have hnc19 := NB421_420.out
      have hnb20 := NB420_422.out
      have hnc20 := NB422_420.out
      obtain ⟨hcz21_0, hcz21_1⟩ := bc2 (w := wr) BK420.out
      have hfz21 := blk_frozen BK420.out
      have p426 : 0 ≤ (x6_1 : Int) := oda
      have q426 : x6_1 < (l0_1.length : Int) := oda
      obtain ⟨ad426, e426, hx426_0, hx426_1, hx426_2, hx426_3, hx426_4⟩ := at_T56 (Kd.C_kept_now HR0_1.out HK.out) x6_1 p426 q426
      cases e426
      replace p426 := eq_true p426
      replace q426 := eq_true q426
      have hnb22 := NB421_422.out
      have hnc22 := NB422_421.out
      obtain ⟨hcz23_0, hcz23_1, hcz23_2, hcz23_3, hcz23_4⟩ := bc5 (w := wr) BK421.out
      have hfz23 := blk_frozen BK421.out
      go_wp2
      repeat (go_quiet (fail); try go_wp2)
      go_roundg k1
      case measure => have := HK1.out; omega
      case rel => exact ⟨(x5_1), (wrap64 (x6_1 + 1)), eqs, H', ⟨by have := HK1.out; omega⟩, ⟨rl HO_5.out⟩, ⟨rl HO_421000.out⟩, ⟨bf BK420.out⟩, ⟨bf BK421.out⟩, ⟨bf BK422.out⟩, ⟨ts HK.out⟩, ⟨bs HB.out⟩⟩
    ·rw [if_neg c10] at H
     exact absurd H (by simp)
   ·rw [if_neg c9] at H
    have c9b0 : decide (x6_1 < (l0_1.length : Int)) = false := decide_eq_false c9
    clear c9
    simp only [Option.some.injEq, Prod.mk.injEq] at H
    obtain ⟨rfl, rfl⟩ := H
    have hnb24 := NB420_421.out
    have hnc24 := NB421_420.out
    have hnb25 := NB420_422.out
    have hnc25 := NB422_420.out
    obtain ⟨hcz26_0, hcz26_1⟩ := bc2 (w := wr) BK420.out
    have hfz26 := blk_frozen BK420.out
    obtain ⟨Ao27, co27, eo27⟩ := Kd.R_slice HO_5.out
    subst eo27
    have hnb28 := NB422_421.out
    have hnc28 := NB421_422.out
    obtain ⟨hcz29_0, hcz29_1⟩ := bc2 (w := wr) BK422.out
    have hfz29 := blk_frozen BK422.out
    go_wp2
    repeat (go_quiet (fail); try go_wp2)
    refine bodyPost_ret (results_cell_row rfl _ _ gb422 34 #[.slice Ao3 l0_0.length co3, .slice Ao27 x5_1.length co27] (0, 0) _ rfl (bp BK422.out rfl) Try.underlying34 rfl (by kernel_rfl)) rfl ?_
    exact ⟨_, _, eqr, by (with_reducible repeat (first | apply Kd.R_alloc | apply Kd.R_drewN | apply Kd.R_drew)); exact Kd.R_mono (Kd.R_far (p := ⟨gb422, 1, none⟩) (Kd.R_far (p := ⟨gb422, 0, none⟩) (Kd.R_far (p := ⟨gb420, 1, none⟩) (Kd.R_types (Kd.R_types HO_421000.out BK420.out (by decide)) BK422.out (by decide)) (fun _ hk => hk.1.2) (.slice Ao27 x5_1.length co27)) (fun _ hk => hk.2) (.slice Ao3 l0_0.length co3)) (fun _ hk => hk.2) (.slice Ao27 x5_1.length co27)) (fun _ hk => hk.1.1), by (with_reducible repeat (first | apply Kd.R_alloc | apply Kd.R_drewN | apply Kd.R_drew)); exact Kd.R_mono (Kd.R_far (p := ⟨gb422, 1, none⟩) (Kd.R_far (p := ⟨gb422, 0, none⟩) (Kd.R_far (p := ⟨gb420, 1, none⟩) (Kd.R_types (Kd.R_types HO_5.out BK420.out (by decide)) BK422.out (by decide)) (fun _ hk => hk.1.2) (.slice Ao27 x5_1.length co27)) (fun _ hk => hk.2) (.slice Ao3 l0_0.length co3)) (fun _ hk => hk.2) (.slice Ao27 x5_1.length co27)) (fun _ hk => hk.1.1.1), bs HB.out, ts HK.out⟩

end Go.Proofs.Ytohmemckdogljaa.QFnGraphView
