/- Contracts of the Go functions that this law reaches: each does what its plain Lean function says. No condition. -/
import Derived.Test.YtohmemckdogljaaQFnGraphViewx0
import Derived.Test.YtohmemckdogljaaQFnGraphViewx2
import Derived.Test.YtohmemckdogljaaQFnGraphViewx3
namespace Go.Proofs.Ytohmemckdogljaa.QFnGraphView
open Go.RowKit Go.Proofs.YtohmemckdogljaaW.PrintWords Go.Proofs.YtohmemckdogljaaW.PrintLast Go.Proofs.YtohmemckdogljaaW.PrintMore Go.Proofs.Ytohmemckdogljaa.Bl
attribute [local go_sem] max2_int min2_int max_two min_two max_three min_three max_four min_four   -- for this text's walks alone
set_option linter.unusedVariables false
set_option linter.unusedSimpArgs false
set_option maxHeartbeats 8000000
set_option maxRecDepth 100000

attribute [local go_sem high] eqA56
/-! ### spec_l2PutNode: function 109 -/
def spec_l2PutNode.l0 : Nat → Int → List (S36) → List (S56) → Int → Int → Option ((List (S36)) × (List (S56)))
 | 0, _, _, _, _, _ => none
 | k + 1, x5, x322000, x322001, x323000, x323001 => if x5 < (x322000.length : Int) then (if 0 ≤ x5 then ((spec_l2Code.f ((rd_T36 x322000 x5).f0) ((rd_T36 x322000 x5).f1)).bind fun t325 => ((spec_l2Code.f x323000 x323001).bind fun t326 => (if t325 < t326 then (spec_l2PutNode.l0 k (wrap64 (x5 + 1)) x322000 x322001 x323000 x323001) else ((some (([] : List (S36)) : List (S36))).bind fun y327 => (if x5 ≤ (x322000.length : Int) then ((some (x322000.drop (x5 : Int).toNat : List (S36))).bind fun y330 => (if y327.length + y330.length < 8796093022208 then ((some (y327 ++ y330 : List (S36))).bind fun y334 => ((some (x322000.take (x5 : Int).toNat : List (S36))).bind fun y337 => (if y337.length < 8796093022208 then ((some (y337 ++ [(⟨x323000, x323001⟩ : S36)] : List (S36))).bind fun y340 => (if y340.length + y334.length < 8796093022208 then (some ((y340 ++ y334), x322001)) else (none))) else (none)))) else (none))) else (none)))))) else (none)) else ((some (([] : List (S36)) : List (S36))).bind fun y346 => (if 0 ≤ x5 then (if x5 ≤ (x322000.length : Int) then ((some (x322000.drop (x5 : Int).toNat : List (S36))).bind fun y349 => (if y346.length + y349.length < 8796093022208 then ((some (y346 ++ y349 : List (S36))).bind fun y353 => ((some (x322000.take (x5 : Int).toNat : List (S36))).bind fun y356 => (if y356.length < 8796093022208 then ((some (y356 ++ [(⟨x323000, x323001⟩ : S36)] : List (S36))).bind fun y359 => (if y359.length + y353.length < 8796093022208 then (some ((y359 ++ y353), x322001)) else (none))) else (none)))) else (none))) else (none)) else (none)))
def spec_l2PutNode.f (k : Nat) (l0_0 : List (S36)) (l0_1 : List (S56)) (a1_0 : Int) (a1_1 : Int) : Option ((List (S36)) × (List (S56))) := spec_l2PutNode.l0 k 0 l0_0 l0_1 a1_0 a1_1
def spec_l2PutNode.T2 : Bool × List (List Nat × List Nat) := (true, [([], []), ([], []), ([1], [1]), ([2], [2]), ([0, 3], [0, 3]), ([4], [4]), ([5], [5]), ([6, 5], [5, 6]), ([5], [5]), ([7, 8, 5], [5, 7, 8]), ([9, 5], [5, 9]), ([10, 5, 5], [5, 10]), ([5], [5]), ([12, 11, 5], [5, 12]), ([11, 13, 5], [5, 11, 13]), ([5, 14], [5, 14])])
def spec_l2PutNode.B2 : List Nat := [0, 0, 2, 6, 15, 31, 63, 127, 63, 511, 1023, 2047, 63, 8191, 16383, 32767]
theorem spec_l2PutNode.tab2 : rtab .any (opsOf Try.f109 2) = spec_l2PutNode.T2 := by kernel_rfl
theorem spec_l2PutNode.bits2 : waitsOk spec_l2PutNode.T2.2 spec_l2PutNode.B2 = true := by kernel_rfl
def spec_l2PutNode.T5 : Bool × List (List Nat × List Nat) := (true, [([], []), ([0], [0]), ([], []), ([1, 2], [1, 2]), ([], []), ([4], [4]), ([3, 5], [3, 5]), ([], []), ([6, 7, 6], [6, 7]), ([0, 1, 2, 3, 4, 5, 6, 7, 8], []), ([9, 8, 8, 0, 1, 2, 3, 4, 5, 6, 7, 8], [8, 9])])
def spec_l2PutNode.B5 : List Nat := [0, 1, 0, 7, 0, 16, 63, 0, 255, 511, 1023]
theorem spec_l2PutNode.tab5 : rtab .any (opsOf Try.f109 5) = spec_l2PutNode.T5 := by kernel_rfl
theorem spec_l2PutNode.bits5 : waitsOk spec_l2PutNode.T5.2 spec_l2PutNode.B5 = true := by kernel_rfl
theorem spec_l2PutNode.calls (k : Nat) (P0_0_ : Nat → Prop) (u9000_ : Value) (l0_0 : List (S36)) (P0_1_ : Nat → Prop) (u9001_ : Value) (l0_1 : List (S56)) (a1_0 : Int) (a1_1 : Int) (r1 : List (S36)) (r2 : List (S56)) (w0 w : World) (hB : Below w0.heap.size w0 w) (ho0_0 : Kd.R k36 36 w w0.heap.size P0_0_ u9000_ l0_0) (ho0_1 : Kd.R k56 56 w w0.heap.size P0_1_ u9001_ l0_1) (h : spec_l2PutNode.f k l0_0 l0_1 a1_0 a1_1 = some (r1, r2)) :
  Calls Try.prog 109 #[.agg #[u9000_, u9001_], .agg #[.int .i64 a1_0, .int .i64 a1_1]] w fun e w' => ∃ v0_ v1_ : Value, e = .returned (.agg #[v0_, v1_]) ∧ Kd.R k36 36 w' w0.heap.size (fun k_ => ((P0_0_ k_ ∨ P0_1_ k_) ∨ w.heap.size ≤ k_)) v0_ r1 ∧ Kd.R k56 56 w' w0.heap.size (fun k_ => ((P0_0_ k_ ∨ P0_1_ k_) ∨ w.heap.size ≤ k_)) v1_ r2 ∧ Below w0.heap.size w0 w' ∧ Kept w w' (fun k_ => P0_0_ k_ ∨ P0_1_ k_) := by
 have hu34 := Try.underlying34
 have hu36 := Try.underlying36
 have HO0_0 := Aside0.mk (show Kd.R k36 36 w w0.heap.size (fun k_ => ((P0_0_ k_ ∨ P0_1_ k_) ∨ w.heap.size ≤ k_)) u9000_ l0_0 from Kd.R_mono ho0_0 (fun k_ hk => (.inl (.inl hk))))
 have HO0_1 := Aside0.mk (show Kd.R k56 56 w w0.heap.size (fun k_ => ((P0_0_ k_ ∨ P0_1_ k_) ∨ w.heap.size ≤ k_)) u9001_ l0_1 from Kd.R_mono ho0_1 (fun k_ hk => (.inl (.inr hk))))
 have HK := Aside0.mk (Kept.refl w (fun k_ => P0_0_ k_ ∨ P0_1_ k_))
 have HW0 := Aside0.mk hB.size
 have HB := Aside0.mk hB
 clear hB
 have H := h; unfold spec_l2PutNode.f at H
 clear h
 have H' := Aside0.mk H
 clear H
 obtain ⟨Ao3, co3, eo3⟩ := Kd.R_slice HO0_0.out
 subst eo3
 obtain ⟨Ao4, co4, eo4⟩ := Kd.R_slice HO0_1.out
 subst eo4
 go_enter Try.func109, Try.ntmps109
 go_wp2_with (first | ((with_reducible refine gd 2 rfl ?_); refine bx 2 (cs := #[.slice Ao3 l0_0.length co3, .slice Ao4 l0_1.length co4]) (t := 34) ?_; intro gb321 hg w5 hbox hb; replace HO0_0 := rb HO0_0 hb; replace HO0_1 := rb HO0_1 hb; have BK321 := Aside0.mk (hbox); have GW321 := Ge.mk ((by rw [hg]; exact (by first | exact HK.out.1 | exact (show Kept w _ (fun k_ => P0_0_ k_ ∨ P0_1_ k_) from ts HK.out).1) : w.heap.size ≤ gb321)); replace HK := kl HK hb; have GE321 := gwb HB hg; replace HB := hs HB hb; clear hb hbox hg) | ((with_reducible refine gd 3 rfl ?_); refine bx 3 (cs := #[.int .i64 a1_0, .int .i64 a1_1]) (t := 36) ?_; intro gb322 hg w6 hbox hb; replace HO0_0 := Aside0.mk (Kd.R_below (Kd.R_elderB (rl HO0_0.out) gb322 (Nat.le_of_eq hg.symm)) hb); replace HO0_1 := rb HO0_1 hb; have BK322 := Aside0.mk (hbox); have GW322 := Ge.mk ((by rw [hg]; exact (by first | exact HK.out.1 | exact (show Kept w _ (fun k_ => P0_0_ k_ ∨ P0_1_ k_) from ts HK.out).1) : w.heap.size ≤ gb322)); replace HK := kl HK hb; have GE322 := gwb HB hg; replace HB := hs HB hb; have NB321_322 := nq BK321 hg; have NB322_321 := nq' BK321 hg; replace BK321 := bb BK321 hb rfl; clear hb hbox hg) | ((with_reducible refine gd 4 rfl ?_); refine bx 4 (cs := #[.slice none 0 0, .slice none 0 0]) (t := 34) ?_; intro gb323 hg w7 hbox hb; replace HO0_0 := rb HO0_0 hb; replace HO0_1 := rb HO0_1 hb; have BK323 := Aside0.mk (hbox); have GW323 := Ge.mk ((by rw [hg]; exact (by first | exact HK.out.1 | exact (show Kept w _ (fun k_ => P0_0_ k_ ∨ P0_1_ k_) from ts HK.out).1) : w.heap.size ≤ gb323)); replace HK := kl HK hb; have GE323 := gwb HB hg; replace HB := hs HB hb; have NB321_323 := nq BK321 hg; have NB323_321 := nq' BK321 hg; replace BK321 := bb BK321 hb rfl; have NB322_323 := nq BK322 hg; have NB323_322 := nq' BK322 hg; replace BK322 := bb BK322 hb rfl; clear hb hbox hg))
 go_loopg [5] k (fun kq v5 w' => ∃ (x5_1 : Int), v5 = .int .i64 x5_1 ∧ Aside0 (spec_l2PutNode.l0 kq x5_1 l0_0 l0_1 a1_0 a1_1 = some (r1, r2)) ∧ Aside0 (kq ≤ k) ∧ Aside0 (Kd.R k36 36 w' w0.heap.size (fun k_ => ((P0_0_ k_ ∨ P0_1_ k_) ∨ w.heap.size ≤ k_) ∧ k_ ≠ gb322) (.slice Ao3 l0_0.length co3) l0_0) ∧ Aside0 (Kd.R k56 56 w' w0.heap.size (fun k_ => ((P0_0_ k_ ∨ P0_1_ k_) ∨ w.heap.size ≤ k_)) (.slice Ao4 l0_1.length co4) l0_1) ∧ Aside0 (w'.heap[gb321]? = some (.cells #[(.slice Ao3 l0_0.length co3), (.slice Ao4 l0_1.length co4)] 34 (0, 0))) ∧ Aside0 (w'.heap[gb322]? = some (.cells #[.int .i64 a1_0, .int .i64 a1_1] 36 (0, 0))) ∧ Aside0 (w'.heap[gb323]? = some (.cells #[(.slice none 0 0), (.slice none 0 0)] 34 (0, 0))) ∧ Aside0 (Kept w w' (fun k_ => P0_0_ k_ ∨ P0_1_ k_)) ∧ Aside0 (Below w0.heap.size w0 w'))
 case atStart => exact ⟨(0), eqs, H', ⟨Nat.le_refl _⟩, ⟨rl HO0_0.out⟩, ⟨rl HO0_1.out⟩, ⟨bf BK321.out⟩, ⟨bf BK322.out⟩, ⟨bf BK323.out⟩, ⟨ts HK.out⟩, ⟨bs HB.out⟩⟩
 case round =>
  clear H'
  try clear c1
  try clear p2
  obtain ⟨x5_1, rfl, HA, HK1, HO_322000, HO_322001, BK321, BK322, BK323, HK, HB⟩ := hrel
  cases gk with
  | zero => exact absurd HA.out (by simp [spec_l2PutNode.l0])
  | succ k1 =>
   have H := HA.out
   clear HA
   simp only [spec_l2PutNode.l0] at H
   by_cases c8 : x5_1 < (l0_0.length : Int)
   ·rw [if_pos c8] at H
    have c8b0 : decide (x5_1 < (l0_0.length : Int)) = true := decide_eq_true c8
    clear c8
    by_cases c9 : 0 ≤ x5_1
    ·rw [if_pos c9] at H
     have c9b0 : decide (0 ≤ x5_1) = true := decide_eq_true c9
     clear c9
     replace H := Option.bind_eq_some_iff.mp H
     obtain ⟨t325, A100, H⟩ := H
     try dsimp -simprocs only at H
     have A10 := Aside0.mk A100
     clear A100
     replace H := Option.bind_eq_some_iff.mp H
     obtain ⟨t326, A110, H⟩ := H
     try dsimp -simprocs only at H
     have A11 := Aside0.mk A110
     clear A110
     by_cases c12 : t325 < t326
     ·rw [if_pos c12] at H
      have c12b0 : decide (t325 < t326) = true := decide_eq_true c12
      clear c12
      have H' := Aside0.mk H
      clear H
      try go_wp2
      replace HO_322000 := rd_ HO_322000
      replace HO_322001 := rd_ HO_322001
      replace BK321 := bd BK321
      replace BK322 := bd BK322
      replace BK323 := bd BK323
      replace HK := Aside0.mk (Kept.drew HK.out)
      replace HB := hd HB
      have p324 : 0 ≤ (x5_1 : Int) := oda
      have q324 : x5_1 < (l0_0.length : Int) := oda
      obtain ⟨ad324, e324, hx324_0, hx324_1⟩ := at_T36 (Kd.R_reads' HO_322000.out).2.2 x5_1 p324 q324
      cases e324
      replace p324 := eq_true p324
      replace q324 := eq_true q324
      refine start_ (n := 16) (S := fun w' => w'.cell? ⟨gb321, 0, none⟩ = some (.slice (some ad324) l0_0.length co3) ∧ w'.cell? ⟨gb321, 1, none⟩ = some (.slice Ao4 l0_1.length co4) ∧ w'.cell? ⟨gb322, 0, none⟩ = some (.int .i64 a1_0) ∧ w'.cell? ⟨gb322, 1, none⟩ = some (.int .i64 a1_1) ∧ w'.cell? (ad324.add ((x5_1).toNat * 2)) = some (.int .i64 ((rd_T36 l0_0 x5_1).f0)) ∧ w'.cell? ⟨(ad324.add ((x5_1).toNat * 2)).block, (ad324.add ((x5_1).toNat * 2)).off + 1, none⟩ = some (.int .i64 ((rd_T36 l0_0 x5_1).f1))) (ds := []) #[false, false, false, false, false, false, false, false, false, false, false, false, false, false, false, false] (by kernel_rfl) rfl rfl ⟨(blk_cell BK321.out 0).trans rfl, (blk_cell BK321.out 1).trans rfl, (blk_cell BK322.out 0).trans rfl, (blk_cell BK322.out 1).trans rfl, hx324_0, hx324_1⟩ (fun hHeld => ?_); refine with_tabW spec_l2PutNode.tab2 spec_l2PutNode.bits2 (fun HT_ HW_ => ?_)
      generalize wr.drew = w13 at HO_322000 HO_322001 BK321 BK322 BK323 HK HB hx324_0 hx324_1 hHeld ⊢
      refine pu 0 7 ?_
      refine pu 1 8 ?_
      refine tk 2 9 ?_
      refine pu 3 10 ?_
      refine pu 4 11 ?_
      refine pu 5 12 ?_
      refine pu 6 13 ?_
      refine pu 8 15 ?_
      refine tk 7 14 ?_
      refine pu 9 16 ?_
      refine tk 10 17 ?_
      refine tk 12 19 ?_
      refine one_ (i := 11) (N := some 18) #[true, true, true, true, true, true, true, true, true, true, true, true, true, false, false, false] rfl rfl (one_of HT_.out (by kernel_rfl)) (by decide) (fun K hK => ?_)
      refine gs Try.func76 #[.agg #[.int .i64 ((rd_T36 l0_0 x5_1).f0), .int .i64 ((rd_T36 l0_0 x5_1).f1)]] ?_
      with_reducible refine (spec_l2Code.calls ((rd_T36 l0_0 x5_1).f0) ((rd_T36 l0_0 x5_1).f1) t325 _ A10.out).mono ?_
      rintro e w14 ⟨rfl, hb⟩
      have HS4_ := (hb.cell (World.block_lt_of_cell? _ _ (hHeld.2.2.2.2.1))).trans (hHeld.2.2.2.2.1)
      have HS5_ := (hb.cell (World.block_lt_of_cell? _ _ (hHeld.2.2.2.2.2))).trans (hHeld.2.2.2.2.2)
      refine ⟨_, rfl, ?_⟩
      replace HO_322000 := rb HO_322000 hb
      replace HO_322001 := rb HO_322001 hb
      replace BK321 := bb BK321 hb rfl
      replace BK322 := bb BK322 hb rfl
      replace BK323 := bb BK323 hb rfl
      replace HK := kl HK hb
      replace HB := hs HB hb
      (try clear hb)
      (try clear hb2)
      (try clear hk)
      (try clear hi)
      refine hK.out _ _ ⟨(blk_cell BK321.out 0).trans rfl, (blk_cell BK321.out 1).trans rfl, (blk_cell BK322.out 0).trans rfl, (blk_cell BK322.out 1).trans rfl, HS4_, HS5_⟩ (fun hHeld => ?_)
      clear hK K
      refine nrm 18 ?_
      refine one_ (i := 13) (N := some 20) #[true, true, true, true, true, true, true, true, true, true, true, true, true, true, false, false] rfl rfl (one_of HT_.out (by kernel_rfl)) (by decide) (fun K hK => ?_)
      refine gs Try.func76 #[.agg #[.int .i64 a1_0, .int .i64 a1_1]] ?_
      with_reducible refine (spec_l2Code.calls a1_0 a1_1 t326 _ A11.out).mono ?_
      rintro e w15 ⟨rfl, hb⟩
      have HS4_ := (hb.cell (World.block_lt_of_cell? _ _ (hHeld.2.2.2.2.1))).trans (hHeld.2.2.2.2.1)
      have HS5_ := (hb.cell (World.block_lt_of_cell? _ _ (hHeld.2.2.2.2.2))).trans (hHeld.2.2.2.2.2)
      refine ⟨_, rfl, ?_⟩
      replace HO_322000 := rb HO_322000 hb
      replace HO_322001 := rb HO_322001 hb
      replace BK321 := bb BK321 hb rfl
      replace BK322 := bb BK322 hb rfl
      replace BK323 := bb BK323 hb rfl
      replace HK := kl HK hb
      replace HB := hs HB hb
      (try clear hb)
      (try clear hb2)
      (try clear hk)
      (try clear hi)
      refine hK.out _ _ ⟨(blk_cell BK321.out 0).trans rfl, (blk_cell BK321.out 1).trans rfl, (blk_cell BK322.out 0).trans rfl, (blk_cell BK322.out 1).trans rfl, HS4_, HS5_⟩ (fun hHeld => ?_)
      clear hK K
      refine nrm 20 ?_
      refine pu 14 21 ?_
      refine pu 15 22 ?_
      refine done_ (done_of HT_.out (by kernel_rfl)) ?_
      try go_wp2
      go_roundg k1
      case measure => have := HK1.out; omega
      case rel => exact ⟨(wrap64 (x5_1 + 1)), eqs, H', ⟨by have := HK1.out; omega⟩, ⟨rl HO_322000.out⟩, ⟨rl HO_322001.out⟩, ⟨bf BK321.out⟩, ⟨bf BK322.out⟩, ⟨bf BK323.out⟩, ⟨ts HK.out⟩, ⟨bs HB.out⟩⟩
     ·rw [if_neg c12] at H
      have c12b0 : decide (t325 < t326) = false := decide_eq_false c12
      clear c12
      obtain ⟨y327, hy327⟩ : ∃ y_ : List (S36), y_ = (([] : List (S36))) := ⟨_, rfl⟩
      replace H : (if x5_1 ≤ (l0_0.length : Int) then ((some (l0_0.drop (x5_1 : Int).toNat : List (S36))).bind fun y330 => (if y327.length + y330.length < 8796093022208 then ((some (y327 ++ y330 : List (S36))).bind fun y334 => ((some (l0_0.take (x5_1 : Int).toNat : List (S36))).bind fun y337 => (if y337.length < 8796093022208 then ((some (y337 ++ [(⟨a1_0, a1_1⟩ : S36)] : List (S36))).bind fun y340 => (if y340.length + y334.length < 8796093022208 then (some ((y340 ++ y334), l0_1)) else (none))) else (none)))) else (none))) else (none)) = some (r1, r2) := by first | (rw [hy327]; exact H) | exact H
      have Ny327 := Aside0.mk hy327
      clear hy327
      have c16b0 := eq_true (oda : 0 ≤ x5_1)
      by_cases c17 : x5_1 ≤ (l0_0.length : Int)
      ·rw [if_pos c17] at H
       have c17b0 := eq_true c17
       have c17b1 : decide (x5_1 ≤ (l0_0.length : Int)) = true := decide_eq_true c17
       clear c17
       obtain ⟨y330, hy330⟩ : ∃ y_ : List (S36), y_ = (l0_0.drop (x5_1 : Int).toNat) := ⟨_, rfl⟩
       replace H : (if y327.length + y330.length < 8796093022208 then ((some (y327 ++ y330 : List (S36))).bind fun y334 => ((some (l0_0.take (x5_1 : Int).toNat : List (S36))).bind fun y337 => (if y337.length < 8796093022208 then ((some (y337 ++ [(⟨a1_0, a1_1⟩ : S36)] : List (S36))).bind fun y340 => (if y340.length + y334.length < 8796093022208 then (some ((y340 ++ y334), l0_1)) else (none))) else (none)))) else (none)) = some (r1, r2) := by first | (rw [hy330]; exact H) | exact H
       have Ny330 := Aside0.mk hy330
       clear hy330
       by_cases c18 : y327.length + y330.length < 8796093022208
       ·rw [if_pos c18] at H
        have LMc18 := Aside0.mk c18
        clear c18
        obtain ⟨y334, hy334⟩ : ∃ y_ : List (S36), y_ = (y327 ++ y330) := ⟨_, rfl⟩
        replace H : ((some (l0_0.take (x5_1 : Int).toNat : List (S36))).bind fun y337 => (if y337.length < 8796093022208 then ((some (y337 ++ [(⟨a1_0, a1_1⟩ : S36)] : List (S36))).bind fun y340 => (if y340.length + y334.length < 8796093022208 then (some ((y340 ++ y334), l0_1)) else (none))) else (none))) = some (r1, r2) := by first | (rw [hy334]; exact H) | exact H
        have Ny334 := Aside0.mk hy334
        clear hy334
        have c19b0 := eq_true (oda : x5_1 ≤ (l0_0.length : Int))
        obtain ⟨y337, hy337⟩ : ∃ y_ : List (S36), y_ = (l0_0.take (x5_1 : Int).toNat) := ⟨_, rfl⟩
        replace H : (if y337.length < 8796093022208 then ((some (y337 ++ [(⟨a1_0, a1_1⟩ : S36)] : List (S36))).bind fun y340 => (if y340.length + y334.length < 8796093022208 then (some ((y340 ++ y334), l0_1)) else (none))) else (none)) = some (r1, r2) := by first | (rw [hy337]; exact H) | exact H
        have Ny337 := Aside0.mk hy337
        clear hy337
        by_cases c20 : y337.length < 8796093022208
        ·rw [if_pos c20] at H
         have LMc20 := Aside0.mk c20
         clear c20
         obtain ⟨y340, hy340⟩ : ∃ y_ : List (S36), y_ = (y337 ++ [(⟨a1_0, a1_1⟩ : S36)]) := ⟨_, rfl⟩
         replace H : (if y340.length + y334.length < 8796093022208 then (some ((y340 ++ y334), l0_1)) else (none)) = some (r1, r2) := by first | (rw [hy340]; exact H) | exact H
         have Ny340 := Aside0.mk hy340
         clear hy340
         by_cases c21 : y340.length + y334.length < 8796093022208
         ·rw [if_pos c21] at H
          have LMc21 := Aside0.mk c21
          clear c21
          obtain ⟨y343, hy343⟩ : ∃ y_ : List (S36), y_ = (y340 ++ y334) := ⟨_, rfl⟩
          replace H : (some (y343, l0_1)) = some (r1, r2) := by first | (rw [hy343]; exact H) | exact H
          have Ny343 := Aside0.mk hy343
          clear hy343
          simp only [Option.some.injEq, Prod.mk.injEq] at H
          obtain ⟨rfl, rfl⟩ := H
          try go_wp2
          replace HO_322000 := rd_ HO_322000
          replace HO_322001 := rd_ HO_322001
          replace BK321 := bd BK321
          replace BK322 := bd BK322
          replace BK323 := bd BK323
          replace HK := Aside0.mk (Kept.drew HK.out)
          replace HB := hd HB
          have p324 : 0 ≤ (x5_1 : Int) := oda
          have q324 : x5_1 < (l0_0.length : Int) := oda
          obtain ⟨ad324, e324, hx324_0, hx324_1⟩ := at_T36 (Kd.R_reads' HO_322000.out).2.2 x5_1 p324 q324
          cases e324
          replace p324 := eq_true p324
          replace q324 := eq_true q324
          refine start_ (n := 16) (S := fun w' => w'.cell? ⟨gb321, 0, none⟩ = some (.slice (some ad324) l0_0.length co3) ∧ w'.cell? ⟨gb321, 1, none⟩ = some (.slice Ao4 l0_1.length co4) ∧ w'.cell? ⟨gb322, 0, none⟩ = some (.int .i64 a1_0) ∧ w'.cell? ⟨gb322, 1, none⟩ = some (.int .i64 a1_1) ∧ w'.cell? (ad324.add ((x5_1).toNat * 2)) = some (.int .i64 ((rd_T36 l0_0 x5_1).f0)) ∧ w'.cell? ⟨(ad324.add ((x5_1).toNat * 2)).block, (ad324.add ((x5_1).toNat * 2)).off + 1, none⟩ = some (.int .i64 ((rd_T36 l0_0 x5_1).f1))) (ds := []) #[false, false, false, false, false, false, false, false, false, false, false, false, false, false, false, false] (by kernel_rfl) rfl rfl ⟨(blk_cell BK321.out 0).trans rfl, (blk_cell BK321.out 1).trans rfl, (blk_cell BK322.out 0).trans rfl, (blk_cell BK322.out 1).trans rfl, hx324_0, hx324_1⟩ (fun hHeld => ?_); refine with_tabW spec_l2PutNode.tab2 spec_l2PutNode.bits2 (fun HT_ HW_ => ?_)
          generalize wr.drew = w22 at HO_322000 HO_322001 BK321 BK322 BK323 HK HB hx324_0 hx324_1 hHeld ⊢
          refine pu 0 7 ?_
          refine pu 1 8 ?_
          refine tk 2 9 ?_
          refine pu 3 10 ?_
          refine pu 4 11 ?_
          refine pu 5 12 ?_
          refine pu 6 13 ?_
          refine pu 8 15 ?_
          refine tk 7 14 ?_
          refine pu 9 16 ?_
          refine tk 10 17 ?_
          refine tk 12 19 ?_
          refine one_ (i := 11) (N := some 18) #[true, true, true, true, true, true, true, true, true, true, true, true, true, false, false, false] rfl rfl (one_of HT_.out (by kernel_rfl)) (by decide) (fun K hK => ?_)
          refine gs Try.func76 #[.agg #[.int .i64 ((rd_T36 l0_0 x5_1).f0), .int .i64 ((rd_T36 l0_0 x5_1).f1)]] ?_
          with_reducible refine (spec_l2Code.calls ((rd_T36 l0_0 x5_1).f0) ((rd_T36 l0_0 x5_1).f1) t325 _ A10.out).mono ?_
          rintro e w23 ⟨rfl, hb⟩
          have HS4_ := (hb.cell (World.block_lt_of_cell? _ _ (hHeld.2.2.2.2.1))).trans (hHeld.2.2.2.2.1)
          have HS5_ := (hb.cell (World.block_lt_of_cell? _ _ (hHeld.2.2.2.2.2))).trans (hHeld.2.2.2.2.2)
          refine ⟨_, rfl, ?_⟩
          replace HO_322000 := rb HO_322000 hb
          replace HO_322001 := rb HO_322001 hb
          replace BK321 := bb BK321 hb rfl
          replace BK322 := bb BK322 hb rfl
          replace BK323 := bb BK323 hb rfl
          replace HK := kl HK hb
          replace HB := hs HB hb
          (try clear hb)
          (try clear hb2)
          (try clear hk)
          (try clear hi)
          refine hK.out _ _ ⟨(blk_cell BK321.out 0).trans rfl, (blk_cell BK321.out 1).trans rfl, (blk_cell BK322.out 0).trans rfl, (blk_cell BK322.out 1).trans rfl, HS4_, HS5_⟩ (fun hHeld => ?_)
          clear hK K
          refine nrm 18 ?_
          refine one_ (i := 13) (N := some 20) #[true, true, true, true, true, true, true, true, true, true, true, true, true, true, false, false] rfl rfl (one_of HT_.out (by kernel_rfl)) (by decide) (fun K hK => ?_)
          refine gs Try.func76 #[.agg #[.int .i64 a1_0, .int .i64 a1_1]] ?_
          with_reducible refine (spec_l2Code.calls a1_0 a1_1 t326 _ A11.out).mono ?_
          rintro e w24 ⟨rfl, hb⟩
          have HS4_ := (hb.cell (World.block_lt_of_cell? _ _ (hHeld.2.2.2.2.1))).trans (hHeld.2.2.2.2.1)
          have HS5_ := (hb.cell (World.block_lt_of_cell? _ _ (hHeld.2.2.2.2.2))).trans (hHeld.2.2.2.2.2)
          refine ⟨_, rfl, ?_⟩
          replace HO_322000 := rb HO_322000 hb
          replace HO_322001 := rb HO_322001 hb
          replace BK321 := bb BK321 hb rfl
          replace BK322 := bb BK322 hb rfl
          replace BK323 := bb BK323 hb rfl
          replace HK := kl HK hb
          replace HB := hs HB hb
          (try clear hb)
          (try clear hb2)
          (try clear hk)
          (try clear hi)
          refine hK.out _ _ ⟨(blk_cell BK321.out 0).trans rfl, (blk_cell BK321.out 1).trans rfl, (blk_cell BK322.out 0).trans rfl, (blk_cell BK322.out 1).trans rfl, HS4_, HS5_⟩ (fun hHeld => ?_)
          clear hK K
          refine nrm 20 ?_
          refine pu 14 21 ?_
          refine pu 15 22 ?_
          refine done_ (done_of HT_.out (by kernel_rfl)) ?_
          try go_wp2_with (first | ((with_reducible refine gd 25 rfl ?_); refine Kd.R_lit k36 _ 36 ?hg (N := 25) ?hd (xs := ([] : List (S36))) (inner := []) (ok := fun _ => True) (okp := fun _ => True) ?hr ?hp (fun _ hk => hk) trivial (Below.refl _ _) (Nat.le_refl _) (by simp) ?_; (case hd => rfl); (case hg => rfl); (case hr => first | (go_simp; done) | (go_simp; rfl)); (case hp => exact (Reps.none _ _)); intro v328 w25 ho26 hb hg_ hnew_; clear hg_ hnew_; (first | rw [← Ny327.out] at ho26 | (simp only [Int.reduceToNat] at ho26; rw [← Ny327.out] at ho26)); replace HO_322001 := rb HO_322001 hb; have HO329 := Aside0.mk (Kd.R_lower (Kd.R_newB (Kd.R_new' (Kd.R_newM (M := fun k_ => ((P0_0_ k_ ∨ P0_1_ k_) ∨ w.heap.size ≤ k_)) ho26 (by first | exact HK.out.1 | exact (show Kept w _ (fun k_ => P0_0_ k_ ∨ P0_1_ k_) from ts HK.out).1) (fun k_ h_ => .inr h_)) (Kd.R_lt (rl HO_322000.out))) (g := gb322) (o := .cells #[.int .i64 a1_0, .int .i64 a1_1] 36 (0, 0)) (bf BK322.out)) (below_size (bs HB.out))); replace HO_322000 := Aside0.mk (Kd.R_elder' (rl HO_322000.out) (Kd.R_base ho26) hb); replace BK321 := bb BK321 hb rfl; replace BK322 := bb BK322 hb rfl; replace BK323 := bb BK323 hb rfl; replace HK := kl HK hb; replace HB := hs HB hb; clear hb ho26; have hnb27 := NB321_322.out; have hnc27 := NB322_321.out; have hnb28 := NB321_323.out; have hnc28 := NB323_321.out; obtain ⟨hcz29_0, hcz29_1⟩ := bc2 (w := w25) BK321.out; have hfz29 := blk_frozen BK321.out; have q30 : (x5_1 : Int) ≤ ((l0_0.length : Int) : Int) := oda; obtain ⟨i030, hi030, _, hsz30, _⟩ := info_parts info36; have hroom30 : l0_0.length ≤ co3 := (Kd.R_reads' HO_322000.out).2.1; have hC30 : Kd.C k36 _ (some ad324) l0_0.length l0_0 := (Kd.R_reads' HO_322000.out).2.2; have q030 : (0 : Int) ≤ (x5_1 : Int) := oda; have hcut30 := cut_from (P := Try.prog) 29 36 .i64 Try.underlying29 hi030 2 hsz30 (some ad324) l0_0.length co3 x5_1 q030 q30; have hr30 := Kd.C_drop (m := (x5_1 : Int).toNat) (c := co3) hC30 (by omega) hroom30; obtain ⟨A30, hA30⟩ : ∃ A1, A1 = (if co3 = (x5_1 : Int).toNat then (some ad324) else ((some ad324) : Option Addr).map (·.add ((x5_1 : Int).toNat * 2))) := ⟨_, rfl⟩; obtain ⟨c30, hc30⟩ : ∃ c1, c1 = co3 - (x5_1 : Int).toNat := ⟨_, rfl⟩; have hy30 : y330.length = l0_0.length - (x5_1 : Int).toNat := (by rw [Ny330.out, List.length_drop] <;> omega); rw [show (l0_0).drop (x5_1 : Int).toNat = y330 from Ny330.out.symm] at hr30; replace hr30 : Kd.C k36 _ A30 y330.length y330 := (by rw [hA30]; exact hr30); rw [← hy30, ← hA30, ← hc30] at hcut30; have HR333 := Aside0.mk hr30; have HC333 := Aside0.mk (show y330.length ≤ c30 from by rw [hy30, hc30]; exact Nat.sub_le_sub_right hroom30 _); clear hr30 hC30 hroom30 hi030 hsz30 hc30; have KY30 := Aside0.mk hy30; have KA30 := Aside0.mk hA30; clear hy30 hA30; have KL30 := Aside0.mk (show (x5_1 : Int).toNat ≤ l0_0.length from by omega); replace q30 := eq_true q30) | ((with_reducible refine gate_builtin (b := .append) (xs := #[.tmp 25, .tmp 29]) rfl ?_); at_builtin; refine Kd.R_append_rows k36 (w0 := w0) w0.heap.size rfl (.tmp 25) (.tmp 29) 29 36 (.agg #[(.int .i64 0), (.int .i64 0)]) 16 rfl Try.underlying29 info36 rfl (by decide) (by omega) v328 y327 y330 _ _ _ (fun k_ => ((P0_0_ k_ ∨ P0_1_ k_) ∨ w.heap.size ≤ k_) ∧ some k_ ≠ (.slice (some ad324) l0_0.length co3 : Value).ownBlock ∧ k_ ≠ gb322) (fun _ => False) rfl rfl ?aO ?aR (fun _ _ h => h) (fun _ h => h.elim) ?aF ?aB ?aS ?aL ?_; (case aR => repeat (first | exact (by repeat (first | (with_reducible exact HR333.out) | (with_reducible refine Kd.C_alloc ?_ _) | (with_reducible refine Kd.C_drewN ?_ _) | (with_reducible refine Kd.C_drew ?_) | exact HR333.out)) | (with_reducible refine Kd.C_alloc ?_ _) | (with_reducible refine Kd.C_drewN ?_ _) | (with_reducible refine Kd.C_drew ?_))); (case aB => exact (bs HB.out)); (case aF => exact (fun k_ hk => ⟨(.inr (Nat.le_trans (by first | exact HK.out.1 | exact (show Kept w _ (fun k_ => P0_0_ k_ ∨ P0_1_ k_) from ts HK.out).1) hk)), Kd.fresh' (Kd.R_lt (rl HO_322000.out)) k_ hk, Kd.freshB (g := gb322) (o := .cells #[.int .i64 a1_0, .int .i64 a1_1] 36 (0, 0)) (bf BK322.out) k_ hk⟩)); (case aO => exact (by (with_reducible repeat (first | apply Kd.R_alloc | apply Kd.R_drewN | apply Kd.R_drew)); exact Kd.R_mono HO329.out (fun _ hk => ⟨hk.1.1.1, ⟨hk.1.2, hk.2⟩⟩))); (case aS => exact (below_size (bs HB.out))); (case aL => have := LMc18.out; omega); intro v335 w31 ho hb hg hat; rw [← Ny334.out] at ho; replace HO_322001 := Aside0.mk (Kd.R_over' (rl HO_322001.out) (Kd.R_typed (rl HO329.out)) (by decide) hg); replace BK321 := gr BK321 HO329 hg; replace BK322 := Aside0.mk (blk_grown (g := gb322) (o := .cells #[.int .i64 a1_0, .int .i64 a1_1] 36 (0, 0)) (bf BK322.out) hg (Kd.R_away HO329.out (fun _ hk => hk.2))); replace BK323 := gr BK323 HO329 hg; replace HB := Aside0.mk (hb); replace HK := Aside0.mk (Kept.of_grown (S := (fun k_ => P0_0_ k_ ∨ P0_1_ k_)) hg (ts HK.out) (fun k_ e_ => (HO329.out.1 k_ e_).1.1.1)); replace HR333 := Aside0.mk ((show Kd.C k36 w31 A30 y330.length y330 from by rw [Ny330.out, KA30.out]; exact Kd.C_drop (m := (x5_1 : Int).toNat) (c := co3) ((Kd.R_reads' (Kd.R_after (ok := (fun k_ => ((P0_0_ k_ ∨ P0_1_ k_) ∨ w.heap.size ≤ k_) ∧ k_ ≠ gb322)) (rl HO_322000.out) hg hat)).2.2) KL30.out ((Kd.R_reads' (Kd.R_after (ok := (fun k_ => ((P0_0_ k_ ∨ P0_1_ k_) ∨ w.heap.size ≤ k_) ∧ k_ ≠ gb322)) (rl HO_322000.out) hg hat)).2.1))); replace HO_322000 := Aside0.mk (Kd.R_after (ok := (fun k_ => ((P0_0_ k_ ∨ P0_1_ k_) ∨ w.heap.size ≤ k_) ∧ k_ ≠ gb322)) (rl HO_322000.out) hg hat); have HO336 := Aside0.mk (ho); clear HO329; clear ho hb hg hat))
          replace HO_322000 := rd_ HO_322000
          replace HO_322001 := rd_ HO_322001
          replace HO336 := rd_ HO336
          replace BK321 := bd BK321
          replace BK322 := bd BK322
          replace BK323 := bd BK323
          replace HR333 := Aside0.mk (Kd.C_drew HR333.out)
          replace HK := Aside0.mk (Kept.drew HK.out)
          replace HB := hd HB
          have q33 : (x5_1 : Int) ≤ ((l0_0.length : Int) : Int) := oda
          obtain ⟨i033, hi033, _, hsz33, _⟩ := info_parts info36
          have hcut33 := cut_to (P := Try.prog) 29 36 .i64 Try.underlying29 hi033 (some ad324) l0_0.length co3 x5_1 (oda) q33 (Kd.R_reads' HO_322000.out).2.1
          have hr33 := Kd.R_take (m := (x5_1 : Int).toNat) HO_322000.out (by omega)
          have hy33 : y337.length = (x5_1 : Int).toNat := (by rw [Ny337.out, List.length_take]; omega)
          rw [← Ny337.out] at hr33
          rw [← hy33] at hr33 hcut33
          clear hy33 hi033 hsz33 HO_322000
          have HO339 := Aside0.mk hr33
          clear hr33
          replace q33 := eq_true q33
          refine start_ (n := 11) (S := fun w' => w'.cell? ⟨gb321, 0, none⟩ = some (.slice (some ad324) l0_0.length co3) ∧ w'.cell? ⟨gb321, 1, none⟩ = some (.slice Ao4 l0_1.length co4) ∧ w'.cell? ⟨gb322, 0, none⟩ = some (.int .i64 a1_0) ∧ w'.cell? ⟨gb322, 1, none⟩ = some (.int .i64 a1_1)) (ds := [10]) #[false, false, false, false, false, false, false, false, false, false, false] (by kernel_rfl) rfl rfl ⟨(blk_cell BK321.out 0).trans rfl, (blk_cell BK321.out 1).trans rfl, (blk_cell BK322.out 0).trans rfl, (blk_cell BK322.out 1).trans rfl⟩ (fun hHeld => ?_); refine with_tabW spec_l2PutNode.tab5 spec_l2PutNode.bits5 (fun HT_ HW_ => ?_)
          generalize w31.drew = w32 at HO_322001 HO336 BK321 BK322 BK323 HR333 HK HB HO339 hHeld ⊢
          refine pu 0 31 ?_
          refine pu 2 33 ?_
          refine pu 7 38 ?_
          refine tk 1 32 ?_
          refine pu 3 34 ?_
          refine tk 4 35 ?_
          refine one_ (i := 5) (N := some 36) #[true, true, true, true, true, true, false, true, false, false, false] rfl rfl (one_of HT_.out (by kernel_rfl)) (by decide) (fun K hK => ?_)
          refine value_ (w1 := ?_) (v := ?_) (by rfl) rfl ?_ ?_
          rotate_left 2
          ·go_simp
           constructor
           ·rfl
           ·rfl
          refine hK.out _ _ ⟨(blk_cell (blk_alloc BK321.out _) 0).trans rfl, (blk_cell (blk_alloc BK321.out _) 1).trans rfl, (blk_cell (blk_alloc BK322.out _) 0).trans rfl, (blk_cell (blk_alloc BK322.out _) 1).trans rfl⟩ (fun hHeld => ?_)
          clear hK K
          refine nrm 36 ?_
          refine one_ (i := 6) (N := some 37) #[true, true, true, true, true, true, true, true, false, false, false] rfl rfl (one_of HT_.out (by kernel_rfl)) (by decide) (fun K hK => ?_)
          refine Kd.R_append_step k36 (w0 := w0) w0.heap.size (by rfl) (.tmp 34) (.tmp 36) 29 36 (.agg #[(.int .i64 0), (.int .i64 0)]) 16 rfl Try.underlying29 info36 rfl (by decide) (by omega) (.slice (some ad324) y337.length co3) y337 (⟨a1_0, a1_1⟩ : S36) [.int .i64 a1_0, .int .i64 a1_1] (fun k_ => ((P0_0_ k_ ∨ P0_1_ k_) ∨ w.heap.size ≤ k_) ∧ some k_ ≠ (v335 : Value).ownBlock ∧ k_ ≠ gb322) (fun _ => False) rfl rfl ?aP (fun _ hk => hk.elim) ?aF ?aO ?aB ?aS ?aL ?_
          (case aP => exact k36_mkM _ _ _ (⟨a1_0, a1_1⟩ : S36))
          (case aB => exact (bs HB.out))
          (case aF => exact (fun k_ hk => ⟨(.inr (Nat.le_trans (by first | exact HK.out.1 | exact (show Kept w _ (fun k_ => P0_0_ k_ ∨ P0_1_ k_) from ts HK.out).1) hk)), Kd.fresh' (Kd.R_lt (rl HO336.out)) k_ hk, Kd.freshB (g := gb322) (o := .cells #[.int .i64 a1_0, .int .i64 a1_1] 36 (0, 0)) (bf BK322.out) k_ hk⟩))
          (case aO => exact (by (with_reducible repeat (first | apply Kd.R_alloc | apply Kd.R_drewN | apply Kd.R_drew)); exact Kd.R_mono HO339.out (fun _ hk => ⟨hk.1.1, ⟨hk.2, hk.1.2⟩⟩)))
          (case aS => exact (below_size (bs HB.out)))
          (case aL => have := LMc20.out; omega)
          intro v341 w34 ho hb hg hat
          rw [← Ny340.out] at ho
          replace HO_322001 := Aside0.mk (Kd.R_over' (rl HO_322001.out) (Kd.R_typed (rl HO339.out)) (by decide) hg)
          replace BK321 := gr BK321 HO339 hg
          replace BK322 := Aside0.mk (blk_grown (g := gb322) (o := .cells #[.int .i64 a1_0, .int .i64 a1_1] 36 (0, 0)) (bf BK322.out) hg (Kd.R_away HO339.out (fun _ hk => hk.1.2)))
          replace BK323 := gr BK323 HO339 hg
          replace HO336 := Aside0.mk (Kd.R_after (ok := (fun k_ => ((P0_0_ k_ ∨ P0_1_ k_) ∨ w.heap.size ≤ k_) ∧ k_ ≠ gb322)) (by (with_reducible repeat (first | apply Kd.R_alloc | apply Kd.R_drewN | apply Kd.R_drew)); exact Kd.R_mono HO336.out (fun _ hk => ⟨⟨hk.1, hk.2.2⟩, fun e_ => hk.2.1 (e_.trans ob)⟩)) hg hat)
          replace HB := Aside0.mk (hb)
          replace HK := Aside0.mk (Kept.of_grown (S := (fun k_ => P0_0_ k_ ∨ P0_1_ k_)) hg (ts HK.out) (fun k_ e_ => (HO339.out.1 k_ e_).1.1))
          have HO342 := Aside0.mk (ho)
          clear HO339
          clear ho hb hg hat
          obtain ⟨Ao36, co36, eo36⟩ := Kd.R_slice HO336.out
          (first | subst eo36 | (injection eo36 with f1_ f2_ f3_; have f4_ := f1_.symm; have f5_ := f3_.symm; clear f1_ f2_ f3_; subst f4_; subst f5_))
          refine hK.out _ _ ⟨(blk_cell BK321.out 0).trans rfl, (blk_cell BK321.out 1).trans rfl, (blk_cell BK322.out 0).trans rfl, (blk_cell BK322.out 1).trans rfl⟩ (fun hHeld => ?_)
          clear hK K
          refine nrm 37 ?_
          refine one_ (i := 8) (N := some 39) #[true, true, true, true, true, true, true, true, true, false, false] rfl rfl (one_of HT_.out (by kernel_rfl)) (by decide) (fun K hK => ?_)
          refine Kd.R_append_rows_step k36 (w0 := w0) w0.heap.size (by rfl) (.tmp 37) (.tmp 38) 29 36 (.agg #[(.int .i64 0), (.int .i64 0)]) 16 rfl Try.underlying29 info36 rfl (by decide) (by omega) v341 y340 y334 _ _ _ (fun k_ => ((P0_0_ k_ ∨ P0_1_ k_) ∨ w.heap.size ≤ k_) ∧ some k_ ≠ (.slice Ao36 y334.length co36 : Value).ownBlock ∧ k_ ≠ gb322) (fun _ => False) rfl rfl ?aO ?aR (fun _ _ h => h) (fun _ h => h.elim) ?aF ?aB ?aS ?aL ?_
          (case aR => exact cr HO336)
          (case aB => exact (bs HB.out))
          (case aF => exact (fun k_ hk => ⟨(.inr (Nat.le_trans (by first | exact HK.out.1 | exact (show Kept w _ (fun k_ => P0_0_ k_ ∨ P0_1_ k_) from ts HK.out).1) hk)), Kd.fresh' (Kd.R_lt (rl HO336.out)) k_ hk, Kd.freshB (g := gb322) (o := .cells #[.int .i64 a1_0, .int .i64 a1_1] 36 (0, 0)) (bf BK322.out) k_ hk⟩))
          (case aO => exact (rl HO342.out))
          (case aS => exact (below_size (bs HB.out)))
          (case aL => have := LMc21.out; omega)
          intro v344 w35 ho hb hg hat
          rw [← Ny343.out] at ho
          replace HO_322001 := Aside0.mk (Kd.R_over' (rl HO_322001.out) (Kd.R_typed (rl HO342.out)) (by decide) hg)
          replace BK321 := gr BK321 HO342 hg
          replace BK322 := Aside0.mk (blk_grown (g := gb322) (o := .cells #[.int .i64 a1_0, .int .i64 a1_1] 36 (0, 0)) (bf BK322.out) hg (Kd.R_away HO342.out (fun _ hk => hk.2.2)))
          replace BK323 := gr BK323 HO342 hg
          replace HO336 := Aside0.mk (Kd.R_after (ok := (fun k_ => ((P0_0_ k_ ∨ P0_1_ k_) ∨ w.heap.size ≤ k_) ∧ k_ ≠ gb322)) (rl HO336.out) hg hat)
          replace HB := Aside0.mk (hb)
          replace HK := Aside0.mk (Kept.of_grown (S := (fun k_ => P0_0_ k_ ∨ P0_1_ k_)) hg (ts HK.out) (fun k_ e_ => (HO342.out.1 k_ e_).1))
          have HO345 := Aside0.mk (ho)
          clear HO342
          clear ho hb hg hat
          obtain ⟨Ao37, co37, eo37⟩ := Kd.R_slice HO345.out
          (first | subst eo37 | (injection eo37 with f1_ f2_ f3_; have f4_ := f1_.symm; have f5_ := f3_.symm; clear f1_ f2_ f3_; subst f4_; subst f5_))
          refine hK.out _ _ ⟨(blk_cell BK321.out 0).trans rfl, (blk_cell BK321.out 1).trans rfl, (blk_cell BK322.out 0).trans rfl, (blk_cell BK322.out 1).trans rfl⟩ (fun hHeld => ?_)
          clear hK K
          refine nrm 39 ?_
          refine pu 9 40 ?_
          refine last_ (i := 10) (N := none) #[true, true, true, true, true, true, true, true, true, true, true] rfl rfl (one_of HT_.out (by kernel_rfl)) (by decide) (fun K hK => ?_)
          have hs38 : w35.cell? ⟨gb321, 0, none⟩ = some (.slice (some ad324) l0_0.length co3) := (blk_cell BK321.out 0).trans rfl
          have hfs38 := blk_frozen BK321.out 0
          have hns38_1 := NB322_321.out
          have hns38_2 := NB323_321.out
          have hms38_1 := NB321_322.out
          have hms38_2 := NB321_323.out
          refine skip_ (w1 := ?_) (by rfl) rfl ?_ ?_
          rotate_left
          ·go_simp
           rfl
          refine hK.out _ _ ?_
          clear hK K
          refine done_ (done_of HT_.out (by kernel_rfl)) ?_
          obtain ⟨hcz39_0, hcz39_1⟩ := bc2 (w := w35) BK321.out
          have hfz39 := blk_frozen BK321.out
          have hnb40 := NB323_322.out
          have hnc40 := NB322_323.out
          obtain ⟨hcz41_0, hcz41_1⟩ := bc2 (w := w35) BK323.out
          have hfz41 := blk_frozen BK323.out
          try go_wp2
          refine bodyPost_ret (results_cell_row rfl _ _ gb323 34 #[.slice Ao37 y343.length co37, .slice Ao4 l0_1.length co4] (0, 0) _ rfl (bp BK323.out rfl) Try.underlying34 rfl (by kernel_rfl)) rfl ?_
          exact ⟨_, _, eqr, by (with_reducible repeat (first | apply Kd.R_alloc | apply Kd.R_drewN | apply Kd.R_drew)); exact Kd.R_mono (Kd.R_far (p := ⟨gb323, 1, none⟩) (Kd.R_far (p := ⟨gb323, 0, none⟩) (Kd.R_far (p := ⟨gb321, 0, none⟩) (Kd.R_types (Kd.R_types HO345.out BK321.out (by decide)) BK323.out (by decide)) (fun _ hk => hk.1.2) (.slice Ao37 y343.length co37)) (fun _ hk => hk.2) (.slice Ao37 y343.length co37)) (fun _ hk => hk.2) (.slice Ao4 l0_1.length co4)) (fun _ hk => hk.1.1.1), by (with_reducible repeat (first | apply Kd.R_alloc | apply Kd.R_drewN | apply Kd.R_drew)); exact Kd.R_mono (Kd.R_far (p := ⟨gb323, 1, none⟩) (Kd.R_far (p := ⟨gb323, 0, none⟩) (Kd.R_far (p := ⟨gb321, 0, none⟩) (Kd.R_types (Kd.R_types HO_322001.out BK321.out (by decide)) BK323.out (by decide)) (fun _ hk => hk.1.2) (.slice Ao37 y343.length co37)) (fun _ hk => hk.2) (.slice Ao37 y343.length co37)) (fun _ hk => hk.2) (.slice Ao4 l0_1.length co4)) (fun _ hk => hk.1.1), bs HB.out, ts HK.out⟩
         ·rw [if_neg c21] at H
          exact absurd H (by simp)
        ·rw [if_neg c20] at H
         exact absurd H (by simp)
       ·rw [if_neg c18] at H
        exact absurd H (by simp)
      ·rw [if_neg c17] at H
       exact absurd H (by simp)
    ·rw [if_neg c9] at H
     exact absurd H (by simp)
   ·rw [if_neg c8] at H
    have c8b0 : decide (x5_1 < (l0_0.length : Int)) = false := decide_eq_false c8
    clear c8
    obtain ⟨y346, hy346⟩ : ∃ y_ : List (S36), y_ = (([] : List (S36))) := ⟨_, rfl⟩
    replace H : (if 0 ≤ x5_1 then (if x5_1 ≤ (l0_0.length : Int) then ((some (l0_0.drop (x5_1 : Int).toNat : List (S36))).bind fun y349 => (if y346.length + y349.length < 8796093022208 then ((some (y346 ++ y349 : List (S36))).bind fun y353 => ((some (l0_0.take (x5_1 : Int).toNat : List (S36))).bind fun y356 => (if y356.length < 8796093022208 then ((some (y356 ++ [(⟨a1_0, a1_1⟩ : S36)] : List (S36))).bind fun y359 => (if y359.length + y353.length < 8796093022208 then (some ((y359 ++ y353), l0_1)) else (none))) else (none)))) else (none))) else (none)) else (none)) = some (r1, r2) := by first | (rw [hy346]; exact H) | exact H
    have Ny346 := Aside0.mk hy346
    clear hy346
    by_cases c42 : 0 ≤ x5_1
    ·rw [if_pos c42] at H
     have c42b0 := eq_true c42
     have c42b1 : decide (0 ≤ x5_1) = true := decide_eq_true c42
     clear c42
     by_cases c43 : x5_1 ≤ (l0_0.length : Int)
     ·rw [if_pos c43] at H
      have c43b0 := eq_true c43
      have c43b1 : decide (x5_1 ≤ (l0_0.length : Int)) = true := decide_eq_true c43
      clear c43
      obtain ⟨y349, hy349⟩ : ∃ y_ : List (S36), y_ = (l0_0.drop (x5_1 : Int).toNat) := ⟨_, rfl⟩
      replace H : (if y346.length + y349.length < 8796093022208 then ((some (y346 ++ y349 : List (S36))).bind fun y353 => ((some (l0_0.take (x5_1 : Int).toNat : List (S36))).bind fun y356 => (if y356.length < 8796093022208 then ((some (y356 ++ [(⟨a1_0, a1_1⟩ : S36)] : List (S36))).bind fun y359 => (if y359.length + y353.length < 8796093022208 then (some ((y359 ++ y353), l0_1)) else (none))) else (none)))) else (none)) = some (r1, r2) := by first | (rw [hy349]; exact H) | exact H
      have Ny349 := Aside0.mk hy349
      clear hy349
      by_cases c44 : y346.length + y349.length < 8796093022208
      ·rw [if_pos c44] at H
       have LMc44 := Aside0.mk c44
       clear c44
       obtain ⟨y353, hy353⟩ : ∃ y_ : List (S36), y_ = (y346 ++ y349) := ⟨_, rfl⟩
       replace H : ((some (l0_0.take (x5_1 : Int).toNat : List (S36))).bind fun y356 => (if y356.length < 8796093022208 then ((some (y356 ++ [(⟨a1_0, a1_1⟩ : S36)] : List (S36))).bind fun y359 => (if y359.length + y353.length < 8796093022208 then (some ((y359 ++ y353), l0_1)) else (none))) else (none))) = some (r1, r2) := by first | (rw [hy353]; exact H) | exact H
       have Ny353 := Aside0.mk hy353
       clear hy353
       have c45b0 := eq_true (oda : x5_1 ≤ (l0_0.length : Int))
       obtain ⟨y356, hy356⟩ : ∃ y_ : List (S36), y_ = (l0_0.take (x5_1 : Int).toNat) := ⟨_, rfl⟩
       replace H : (if y356.length < 8796093022208 then ((some (y356 ++ [(⟨a1_0, a1_1⟩ : S36)] : List (S36))).bind fun y359 => (if y359.length + y353.length < 8796093022208 then (some ((y359 ++ y353), l0_1)) else (none))) else (none)) = some (r1, r2) := by first | (rw [hy356]; exact H) | exact H
       have Ny356 := Aside0.mk hy356
       clear hy356
       by_cases c46 : y356.length < 8796093022208
       ·rw [if_pos c46] at H
        have LMc46 := Aside0.mk c46
        clear c46
        obtain ⟨y359, hy359⟩ : ∃ y_ : List (S36), y_ = (y356 ++ [(⟨a1_0, a1_1⟩ : S36)]) := ⟨_, rfl⟩
        replace H : (if y359.length + y353.length < 8796093022208 then (some ((y359 ++ y353), l0_1)) else (none)) = some (r1, r2) := by first | (rw [hy359]; exact H) | exact H
        have Ny359 := Aside0.mk hy359
        clear hy359
        by_cases c47 : y359.length + y353.length < 8796093022208
        ·rw [if_pos c47] at H
         have LMc47 := Aside0.mk c47
         clear c47
         obtain ⟨y362, hy362⟩ : ∃ y_ : List (S36), y_ = (y359 ++ y353) := ⟨_, rfl⟩
         replace H : (some (y362, l0_1)) = some (r1, r2) := by first | (rw [hy362]; exact H) | exact H
         have Ny362 := Aside0.mk hy362
         clear hy362
         simp only [Option.some.injEq, Prod.mk.injEq] at H
         obtain ⟨rfl, rfl⟩ := H
         try go_wp2
         replace HO_322000 := rd_ HO_322000
         replace HO_322001 := rd_ HO_322001
         replace BK321 := bd BK321
         replace BK322 := bd BK322
         replace BK323 := bd BK323
         replace HK := Aside0.mk (Kept.drew HK.out)
         replace HB := hd HB
         refine start_ (n := 16) (S := fun w' => w'.cell? ⟨gb321, 0, none⟩ = some (.slice Ao3 l0_0.length co3) ∧ w'.cell? ⟨gb321, 1, none⟩ = some (.slice Ao4 l0_1.length co4)) (ds := []) #[false, false, false, false, false, false, false, false, false, false, false, false, false, false, false, false] (by kernel_rfl) rfl rfl ⟨(blk_cell BK321.out 0).trans rfl, (blk_cell BK321.out 1).trans rfl⟩ (fun hHeld => ?_); refine with_tabW spec_l2PutNode.tab2 spec_l2PutNode.bits2 (fun HT_ HW_ => ?_)
         generalize wr.drew = w48 at HO_322000 HO_322001 BK321 BK322 BK323 HK HB hHeld ⊢
         refine pu 0 7 ?_
         refine pu 1 8 ?_
         refine tk 2 9 ?_
         refine pu 3 10 ?_
         refine pu 4 11 ?_
         refine pu 5 12 ?_
         refine pure_ (i := 6) (N := some 13) (v := undef) (a' := ?_) #[true, true, true, true, true, true, true, false, false, false, false, false, false, false, false, false] rfl rfl (any_of HT_.out (by kernel_rfl)) (fun _ _ _ h => h) (Or.inr ⟨by rfl, rfl⟩) ?_ ?_
         rotate_left
         ·simp only [Act.put, List.setIfInBounds_toArray, List.set_cons_zero, List.set_cons_succ, i64_w, i32_w]
          rfl
         refine pure_ (i := 7) (N := some 14) (v := undef) (a' := ?_) #[true, true, true, true, true, true, true, true, false, false, false, false, false, false, false, false] rfl rfl (any_of HT_.out (by kernel_rfl)) (fun _ _ _ h => h) (Or.inr ⟨by rfl, rfl⟩) ?_ ?_
         rotate_left
         ·simp only [Act.put, List.setIfInBounds_toArray, List.set_cons_zero, List.set_cons_succ, i64_w, i32_w]
          rfl
         refine pure_ (i := 8) (N := some 15) (v := undef) (a' := ?_) #[true, true, true, true, true, true, true, true, true, false, false, false, false, false, false, false] rfl rfl (any_of HT_.out (by kernel_rfl)) (fun _ _ _ h => h) (Or.inr ⟨by rfl, rfl⟩) ?_ ?_
         rotate_left
         ·simp only [Act.put, List.setIfInBounds_toArray, List.set_cons_zero, List.set_cons_succ, i64_w, i32_w]
          rfl
         refine pure_ (i := 9) (N := some 16) (v := undef) (a' := ?_) #[true, true, true, true, true, true, true, true, true, true, false, false, false, false, false, false] rfl rfl (any_of HT_.out (by kernel_rfl)) (fun _ _ _ h => h) (Or.inr ⟨by rfl, rfl⟩) ?_ ?_
         rotate_left
         ·simp only [Act.put, List.setIfInBounds_toArray, List.set_cons_zero, List.set_cons_succ, i64_w, i32_w]
          rfl
         refine pure_ (i := 10) (N := some 17) (v := undef) (a' := ?_) #[true, true, true, true, true, true, true, true, true, true, true, false, false, false, false, false] rfl rfl (any_of HT_.out (by kernel_rfl)) (fun _ _ _ h => h) (Or.inr ⟨by rfl, rfl⟩) ?_ ?_
         rotate_left
         ·simp only [Act.put, List.setIfInBounds_toArray, List.set_cons_zero, List.set_cons_succ, i64_w, i32_w]
          rfl
         refine pure_ (i := 11) (N := some 18) (v := undef) (a' := ?_) #[true, true, true, true, true, true, true, true, true, true, true, true, false, false, false, false] rfl rfl (any_of HT_.out (by kernel_rfl)) (fun _ _ _ h => h) (Or.inr ⟨by rfl, rfl⟩) ?_ ?_
         rotate_left
         ·simp only [Act.put, List.setIfInBounds_toArray, List.set_cons_zero, List.set_cons_succ, i64_w, i32_w]
          rfl
         refine pure_ (i := 12) (N := some 19) (v := undef) (a' := ?_) #[true, true, true, true, true, true, true, true, true, true, true, true, true, false, false, false] rfl rfl (any_of HT_.out (by kernel_rfl)) (fun _ _ _ h => h) (Or.inr ⟨by rfl, rfl⟩) ?_ ?_
         rotate_left
         ·simp only [Act.put, List.setIfInBounds_toArray, List.set_cons_zero, List.set_cons_succ, i64_w, i32_w]
          rfl
         refine pure_ (i := 13) (N := some 20) (v := undef) (a' := ?_) #[true, true, true, true, true, true, true, true, true, true, true, true, true, true, false, false] rfl rfl (any_of HT_.out (by kernel_rfl)) (fun _ _ _ h => h) (Or.inr ⟨by rfl, rfl⟩) ?_ ?_
         rotate_left
         ·simp only [Act.put, List.setIfInBounds_toArray, List.set_cons_zero, List.set_cons_succ, i64_w, i32_w]
          rfl
         refine pure_ (i := 14) (N := some 21) (v := undef) (a' := ?_) #[true, true, true, true, true, true, true, true, true, true, true, true, true, true, true, false] rfl rfl (any_of HT_.out (by kernel_rfl)) (fun _ _ _ h => h) (Or.inr ⟨by rfl, rfl⟩) ?_ ?_
         rotate_left
         ·simp only [Act.put, List.setIfInBounds_toArray, List.set_cons_zero, List.set_cons_succ, i64_w, i32_w]
          rfl
         refine pu 15 22 ?_
         refine done_ (done_of HT_.out (by kernel_rfl)) ?_
         try go_wp2_with (first | ((with_reducible refine gd 25 rfl ?_); refine Kd.R_lit k36 _ 36 ?hg (N := 25) ?hd (xs := ([] : List (S36))) (inner := []) (ok := fun _ => True) (okp := fun _ => True) ?hr ?hp (fun _ hk => hk) trivial (Below.refl _ _) (Nat.le_refl _) (by simp) ?_; (case hd => rfl); (case hg => rfl); (case hr => first | (go_simp; done) | (go_simp; rfl)); (case hp => exact (Reps.none _ _)); intro v347 w49 ho50 hb hg_ hnew_; clear hg_ hnew_; (first | rw [← Ny346.out] at ho50 | (simp only [Int.reduceToNat] at ho50; rw [← Ny346.out] at ho50)); replace HO_322001 := rb HO_322001 hb; have HO348 := Aside0.mk (Kd.R_lower (Kd.R_newB (Kd.R_new' (Kd.R_newM (M := fun k_ => ((P0_0_ k_ ∨ P0_1_ k_) ∨ w.heap.size ≤ k_)) ho50 (by first | exact HK.out.1 | exact (show Kept w _ (fun k_ => P0_0_ k_ ∨ P0_1_ k_) from ts HK.out).1) (fun k_ h_ => .inr h_)) (Kd.R_lt (rl HO_322000.out))) (g := gb322) (o := .cells #[.int .i64 a1_0, .int .i64 a1_1] 36 (0, 0)) (bf BK322.out)) (below_size (bs HB.out))); replace HO_322000 := Aside0.mk (Kd.R_elder' (rl HO_322000.out) (Kd.R_base ho50) hb); replace BK321 := bb BK321 hb rfl; replace BK322 := bb BK322 hb rfl; replace BK323 := bb BK323 hb rfl; replace HK := kl HK hb; replace HB := hs HB hb; clear hb ho50; have hnb51 := NB321_322.out; have hnc51 := NB322_321.out; have hnb52 := NB321_323.out; have hnc52 := NB323_321.out; obtain ⟨hcz53_0, hcz53_1⟩ := bc2 (w := w49) BK321.out; have hfz53 := blk_frozen BK321.out; have q54 : (x5_1 : Int) ≤ ((l0_0.length : Int) : Int) := oda; obtain ⟨i054, hi054, _, hsz54, _⟩ := info_parts info36; have hroom54 : l0_0.length ≤ co3 := (Kd.R_reads' HO_322000.out).2.1; have hC54 : Kd.C k36 _ Ao3 l0_0.length l0_0 := (Kd.R_reads' HO_322000.out).2.2; have q054 : (0 : Int) ≤ (x5_1 : Int) := oda; have hcut54 := cut_from (P := Try.prog) 29 36 .i64 Try.underlying29 hi054 2 hsz54 Ao3 l0_0.length co3 x5_1 q054 q54; have hr54 := Kd.C_drop (m := (x5_1 : Int).toNat) (c := co3) hC54 (by omega) hroom54; obtain ⟨A54, hA54⟩ : ∃ A1, A1 = (if co3 = (x5_1 : Int).toNat then Ao3 else (Ao3 : Option Addr).map (·.add ((x5_1 : Int).toNat * 2))) := ⟨_, rfl⟩; obtain ⟨c54, hc54⟩ : ∃ c1, c1 = co3 - (x5_1 : Int).toNat := ⟨_, rfl⟩; have hy54 : y349.length = l0_0.length - (x5_1 : Int).toNat := (by rw [Ny349.out, List.length_drop] <;> omega); rw [show (l0_0).drop (x5_1 : Int).toNat = y349 from Ny349.out.symm] at hr54; replace hr54 : Kd.C k36 _ A54 y349.length y349 := (by rw [hA54]; exact hr54); rw [← hy54, ← hA54, ← hc54] at hcut54; have HR352 := Aside0.mk hr54; have HC352 := Aside0.mk (show y349.length ≤ c54 from by rw [hy54, hc54]; exact Nat.sub_le_sub_right hroom54 _); clear hr54 hC54 hroom54 hi054 hsz54 hc54; have KY54 := Aside0.mk hy54; have KA54 := Aside0.mk hA54; clear hy54 hA54; have KL54 := Aside0.mk (show (x5_1 : Int).toNat ≤ l0_0.length from by omega); replace q54 := eq_true q54) | ((with_reducible refine gate_builtin (b := .append) (xs := #[.tmp 25, .tmp 29]) rfl ?_); at_builtin; refine Kd.R_append_rows k36 (w0 := w0) w0.heap.size rfl (.tmp 25) (.tmp 29) 29 36 (.agg #[(.int .i64 0), (.int .i64 0)]) 16 rfl Try.underlying29 info36 rfl (by decide) (by omega) v347 y346 y349 _ _ _ (fun k_ => ((P0_0_ k_ ∨ P0_1_ k_) ∨ w.heap.size ≤ k_) ∧ some k_ ≠ (.slice Ao3 l0_0.length co3 : Value).ownBlock ∧ k_ ≠ gb322) (fun _ => False) rfl rfl ?aO ?aR (fun _ _ h => h) (fun _ h => h.elim) ?aF ?aB ?aS ?aL ?_; (case aR => repeat (first | exact (by repeat (first | (with_reducible exact HR352.out) | (with_reducible refine Kd.C_alloc ?_ _) | (with_reducible refine Kd.C_drewN ?_ _) | (with_reducible refine Kd.C_drew ?_) | exact HR352.out)) | (with_reducible refine Kd.C_alloc ?_ _) | (with_reducible refine Kd.C_drewN ?_ _) | (with_reducible refine Kd.C_drew ?_))); (case aB => exact (bs HB.out)); (case aF => exact (fun k_ hk => ⟨(.inr (Nat.le_trans (by first | exact HK.out.1 | exact (show Kept w _ (fun k_ => P0_0_ k_ ∨ P0_1_ k_) from ts HK.out).1) hk)), Kd.fresh' (Kd.R_lt (rl HO_322000.out)) k_ hk, Kd.freshB (g := gb322) (o := .cells #[.int .i64 a1_0, .int .i64 a1_1] 36 (0, 0)) (bf BK322.out) k_ hk⟩)); (case aO => exact (by (with_reducible repeat (first | apply Kd.R_alloc | apply Kd.R_drewN | apply Kd.R_drew)); exact Kd.R_mono HO348.out (fun _ hk => ⟨hk.1.1.1, ⟨hk.1.2, hk.2⟩⟩))); (case aS => exact (below_size (bs HB.out))); (case aL => have := LMc44.out; omega); intro v354 w55 ho hb hg hat; rw [← Ny353.out] at ho; replace HO_322001 := Aside0.mk (Kd.R_over' (rl HO_322001.out) (Kd.R_typed (rl HO348.out)) (by decide) hg); replace BK321 := gr BK321 HO348 hg; replace BK322 := Aside0.mk (blk_grown (g := gb322) (o := .cells #[.int .i64 a1_0, .int .i64 a1_1] 36 (0, 0)) (bf BK322.out) hg (Kd.R_away HO348.out (fun _ hk => hk.2))); replace BK323 := gr BK323 HO348 hg; replace HB := Aside0.mk (hb); replace HK := Aside0.mk (Kept.of_grown (S := (fun k_ => P0_0_ k_ ∨ P0_1_ k_)) hg (ts HK.out) (fun k_ e_ => (HO348.out.1 k_ e_).1.1.1)); replace HR352 := Aside0.mk ((show Kd.C k36 w55 A54 y349.length y349 from by rw [Ny349.out, KA54.out]; exact Kd.C_drop (m := (x5_1 : Int).toNat) (c := co3) ((Kd.R_reads' (Kd.R_after (ok := (fun k_ => ((P0_0_ k_ ∨ P0_1_ k_) ∨ w.heap.size ≤ k_) ∧ k_ ≠ gb322)) (rl HO_322000.out) hg hat)).2.2) KL54.out ((Kd.R_reads' (Kd.R_after (ok := (fun k_ => ((P0_0_ k_ ∨ P0_1_ k_) ∨ w.heap.size ≤ k_) ∧ k_ ≠ gb322)) (rl HO_322000.out) hg hat)).2.1))); replace HO_322000 := Aside0.mk (Kd.R_after (ok := (fun k_ => ((P0_0_ k_ ∨ P0_1_ k_) ∨ w.heap.size ≤ k_) ∧ k_ ≠ gb322)) (rl HO_322000.out) hg hat); have HO355 := Aside0.mk (ho); clear HO348; clear ho hb hg hat))
         replace HO_322000 := rd_ HO_322000
         replace HO_322001 := rd_ HO_322001
         replace HO355 := rd_ HO355
         replace BK321 := bd BK321
         replace BK322 := bd BK322
         replace BK323 := bd BK323
         replace HR352 := Aside0.mk (Kd.C_drew HR352.out)
         replace HK := Aside0.mk (Kept.drew HK.out)
         replace HB := hd HB
         have q57 : (x5_1 : Int) ≤ ((l0_0.length : Int) : Int) := oda
         obtain ⟨i057, hi057, _, hsz57, _⟩ := info_parts info36
         have hcut57 := cut_to (P := Try.prog) 29 36 .i64 Try.underlying29 hi057 Ao3 l0_0.length co3 x5_1 (oda) q57 (Kd.R_reads' HO_322000.out).2.1
         have hr57 := Kd.R_take (m := (x5_1 : Int).toNat) HO_322000.out (by omega)
         have hy57 : y356.length = (x5_1 : Int).toNat := (by rw [Ny356.out, List.length_take]; omega)
         rw [← Ny356.out] at hr57
         rw [← hy57] at hr57 hcut57
         clear hy57 hi057 hsz57 HO_322000
         have HO358 := Aside0.mk hr57
         clear hr57
         replace q57 := eq_true q57
         refine start_ (n := 11) (S := fun w' => w'.cell? ⟨gb321, 0, none⟩ = some (.slice Ao3 l0_0.length co3) ∧ w'.cell? ⟨gb321, 1, none⟩ = some (.slice Ao4 l0_1.length co4) ∧ w'.cell? ⟨gb322, 0, none⟩ = some (.int .i64 a1_0) ∧ w'.cell? ⟨gb322, 1, none⟩ = some (.int .i64 a1_1)) (ds := [10]) #[false, false, false, false, false, false, false, false, false, false, false] (by kernel_rfl) rfl rfl ⟨(blk_cell BK321.out 0).trans rfl, (blk_cell BK321.out 1).trans rfl, (blk_cell BK322.out 0).trans rfl, (blk_cell BK322.out 1).trans rfl⟩ (fun hHeld => ?_); refine with_tabW spec_l2PutNode.tab5 spec_l2PutNode.bits5 (fun HT_ HW_ => ?_)
         generalize w55.drew = w56 at HO_322001 HO355 BK321 BK322 BK323 HR352 HK HB HO358 hHeld ⊢
         refine pu 0 31 ?_
         refine pu 2 33 ?_
         refine pu 7 38 ?_
         refine tk 1 32 ?_
         refine pu 3 34 ?_
         refine tk 4 35 ?_
         refine one_ (i := 5) (N := some 36) #[true, true, true, true, true, true, false, true, false, false, false] rfl rfl (one_of HT_.out (by kernel_rfl)) (by decide) (fun K hK => ?_)
         refine value_ (w1 := ?_) (v := ?_) (by rfl) rfl ?_ ?_
         rotate_left 2
         ·go_simp
          constructor
          ·rfl
          ·rfl
         refine hK.out _ _ ⟨(blk_cell (blk_alloc BK321.out _) 0).trans rfl, (blk_cell (blk_alloc BK321.out _) 1).trans rfl, (blk_cell (blk_alloc BK322.out _) 0).trans rfl, (blk_cell (blk_alloc BK322.out _) 1).trans rfl⟩ (fun hHeld => ?_)
         clear hK K
         refine nrm 36 ?_
         refine one_ (i := 6) (N := some 37) #[true, true, true, true, true, true, true, true, false, false, false] rfl rfl (one_of HT_.out (by kernel_rfl)) (by decide) (fun K hK => ?_)
         refine Kd.R_append_step k36 (w0 := w0) w0.heap.size (by rfl) (.tmp 34) (.tmp 36) 29 36 (.agg #[(.int .i64 0), (.int .i64 0)]) 16 rfl Try.underlying29 info36 rfl (by decide) (by omega) (.slice Ao3 y356.length co3) y356 (⟨a1_0, a1_1⟩ : S36) [.int .i64 a1_0, .int .i64 a1_1] (fun k_ => ((P0_0_ k_ ∨ P0_1_ k_) ∨ w.heap.size ≤ k_) ∧ some k_ ≠ (v354 : Value).ownBlock ∧ k_ ≠ gb322) (fun _ => False) rfl rfl ?aP (fun _ hk => hk.elim) ?aF ?aO ?aB ?aS ?aL ?_
         (case aP => exact k36_mkM _ _ _ (⟨a1_0, a1_1⟩ : S36))
         (case aB => exact (bs HB.out))
         (case aF => exact (fun k_ hk => ⟨(.inr (Nat.le_trans (by first | exact HK.out.1 | exact (show Kept w _ (fun k_ => P0_0_ k_ ∨ P0_1_ k_) from ts HK.out).1) hk)), Kd.fresh' (Kd.R_lt (rl HO355.out)) k_ hk, Kd.freshB (g := gb322) (o := .cells #[.int .i64 a1_0, .int .i64 a1_1] 36 (0, 0)) (bf BK322.out) k_ hk⟩))
         (case aO => exact (by (with_reducible repeat (first | apply Kd.R_alloc | apply Kd.R_drewN | apply Kd.R_drew)); exact Kd.R_mono HO358.out (fun _ hk => ⟨hk.1.1, ⟨hk.2, hk.1.2⟩⟩)))
         (case aS => exact (below_size (bs HB.out)))
         (case aL => have := LMc46.out; omega)
         intro v360 w58 ho hb hg hat
         rw [← Ny359.out] at ho
         replace HO_322001 := Aside0.mk (Kd.R_over' (rl HO_322001.out) (Kd.R_typed (rl HO358.out)) (by decide) hg)
         replace BK321 := gr BK321 HO358 hg
         replace BK322 := Aside0.mk (blk_grown (g := gb322) (o := .cells #[.int .i64 a1_0, .int .i64 a1_1] 36 (0, 0)) (bf BK322.out) hg (Kd.R_away HO358.out (fun _ hk => hk.1.2)))
         replace BK323 := gr BK323 HO358 hg
         replace HO355 := Aside0.mk (Kd.R_after (ok := (fun k_ => ((P0_0_ k_ ∨ P0_1_ k_) ∨ w.heap.size ≤ k_) ∧ k_ ≠ gb322)) (by (with_reducible repeat (first | apply Kd.R_alloc | apply Kd.R_drewN | apply Kd.R_drew)); exact Kd.R_mono HO355.out (fun _ hk => ⟨⟨hk.1, hk.2.2⟩, fun e_ => hk.2.1 (e_.trans ob)⟩)) hg hat)
         replace HB := Aside0.mk (hb)
         replace HK := Aside0.mk (Kept.of_grown (S := (fun k_ => P0_0_ k_ ∨ P0_1_ k_)) hg (ts HK.out) (fun k_ e_ => (HO358.out.1 k_ e_).1.1))
         have HO361 := Aside0.mk (ho)
         clear HO358
         clear ho hb hg hat
         obtain ⟨Ao60, co60, eo60⟩ := Kd.R_slice HO355.out
         (first | subst eo60 | (injection eo60 with f1_ f2_ f3_; have f4_ := f1_.symm; have f5_ := f3_.symm; clear f1_ f2_ f3_; subst f4_; subst f5_))
         refine hK.out _ _ ⟨(blk_cell BK321.out 0).trans rfl, (blk_cell BK321.out 1).trans rfl, (blk_cell BK322.out 0).trans rfl, (blk_cell BK322.out 1).trans rfl⟩ (fun hHeld => ?_)
         clear hK K
         refine nrm 37 ?_
         refine one_ (i := 8) (N := some 39) #[true, true, true, true, true, true, true, true, true, false, false] rfl rfl (one_of HT_.out (by kernel_rfl)) (by decide) (fun K hK => ?_)
         refine Kd.R_append_rows_step k36 (w0 := w0) w0.heap.size (by rfl) (.tmp 37) (.tmp 38) 29 36 (.agg #[(.int .i64 0), (.int .i64 0)]) 16 rfl Try.underlying29 info36 rfl (by decide) (by omega) v360 y359 y353 _ _ _ (fun k_ => ((P0_0_ k_ ∨ P0_1_ k_) ∨ w.heap.size ≤ k_) ∧ some k_ ≠ (.slice Ao60 y353.length co60 : Value).ownBlock ∧ k_ ≠ gb322) (fun _ => False) rfl rfl ?aO ?aR (fun _ _ h => h) (fun _ h => h.elim) ?aF ?aB ?aS ?aL ?_
         (case aR => exact cr HO355)
         (case aB => exact (bs HB.out))
         (case aF => exact (fun k_ hk => ⟨(.inr (Nat.le_trans (by first | exact HK.out.1 | exact (show Kept w _ (fun k_ => P0_0_ k_ ∨ P0_1_ k_) from ts HK.out).1) hk)), Kd.fresh' (Kd.R_lt (rl HO355.out)) k_ hk, Kd.freshB (g := gb322) (o := .cells #[.int .i64 a1_0, .int .i64 a1_1] 36 (0, 0)) (bf BK322.out) k_ hk⟩))
         (case aO => exact (rl HO361.out))
         (case aS => exact (below_size (bs HB.out)))
         (case aL => have := LMc47.out; omega)
         intro v363 w59 ho hb hg hat
         rw [← Ny362.out] at ho
         replace HO_322001 := Aside0.mk (Kd.R_over' (rl HO_322001.out) (Kd.R_typed (rl HO361.out)) (by decide) hg)
         replace BK321 := gr BK321 HO361 hg
         replace BK322 := Aside0.mk (blk_grown (g := gb322) (o := .cells #[.int .i64 a1_0, .int .i64 a1_1] 36 (0, 0)) (bf BK322.out) hg (Kd.R_away HO361.out (fun _ hk => hk.2.2)))
         replace BK323 := gr BK323 HO361 hg
         replace HO355 := Aside0.mk (Kd.R_after (ok := (fun k_ => ((P0_0_ k_ ∨ P0_1_ k_) ∨ w.heap.size ≤ k_) ∧ k_ ≠ gb322)) (rl HO355.out) hg hat)
         replace HB := Aside0.mk (hb)
         replace HK := Aside0.mk (Kept.of_grown (S := (fun k_ => P0_0_ k_ ∨ P0_1_ k_)) hg (ts HK.out) (fun k_ e_ => (HO361.out.1 k_ e_).1))
         have HO364 := Aside0.mk (ho)
         clear HO361
         clear ho hb hg hat
         obtain ⟨Ao61, co61, eo61⟩ := Kd.R_slice HO364.out
         (first | subst eo61 | (injection eo61 with f1_ f2_ f3_; have f4_ := f1_.symm; have f5_ := f3_.symm; clear f1_ f2_ f3_; subst f4_; subst f5_))
         refine hK.out _ _ ⟨(blk_cell BK321.out 0).trans rfl, (blk_cell BK321.out 1).trans rfl, (blk_cell BK322.out 0).trans rfl, (blk_cell BK322.out 1).trans rfl⟩ (fun hHeld => ?_)
         clear hK K
         refine nrm 39 ?_
         refine pu 9 40 ?_
         refine last_ (i := 10) (N := none) #[true, true, true, true, true, true, true, true, true, true, true] rfl rfl (one_of HT_.out (by kernel_rfl)) (by decide) (fun K hK => ?_)
         have hs62 : w59.cell? ⟨gb321, 0, none⟩ = some (.slice Ao3 l0_0.length co3) := (blk_cell BK321.out 0).trans rfl
         have hfs62 := blk_frozen BK321.out 0
         have hns62_1 := NB322_321.out
         have hns62_2 := NB323_321.out
         have hms62_1 := NB321_322.out
         have hms62_2 := NB321_323.out
         refine skip_ (w1 := ?_) (by rfl) rfl ?_ ?_
         rotate_left
         ·go_simp
          rfl
         refine hK.out _ _ ?_
         clear hK K
         refine done_ (done_of HT_.out (by kernel_rfl)) ?_
         obtain ⟨hcz63_0, hcz63_1⟩ := bc2 (w := w59) BK321.out
         have hfz63 := blk_frozen BK321.out
         have hnb64 := NB323_322.out
         have hnc64 := NB322_323.out
         obtain ⟨hcz65_0, hcz65_1⟩ := bc2 (w := w59) BK323.out
         have hfz65 := blk_frozen BK323.out
         try go_wp2
         refine bodyPost_ret (results_cell_row rfl _ _ gb323 34 #[.slice Ao61 y362.length co61, .slice Ao4 l0_1.length co4] (0, 0) _ rfl (bp BK323.out rfl) Try.underlying34 rfl (by kernel_rfl)) rfl ?_
         exact ⟨_, _, eqr, by (with_reducible repeat (first | apply Kd.R_alloc | apply Kd.R_drewN | apply Kd.R_drew)); exact Kd.R_mono (Kd.R_far (p := ⟨gb323, 1, none⟩) (Kd.R_far (p := ⟨gb323, 0, none⟩) (Kd.R_far (p := ⟨gb321, 0, none⟩) (Kd.R_types (Kd.R_types HO364.out BK321.out (by decide)) BK323.out (by decide)) (fun _ hk => hk.1.2) (.slice Ao61 y362.length co61)) (fun _ hk => hk.2) (.slice Ao61 y362.length co61)) (fun _ hk => hk.2) (.slice Ao4 l0_1.length co4)) (fun _ hk => hk.1.1.1), by (with_reducible repeat (first | apply Kd.R_alloc | apply Kd.R_drewN | apply Kd.R_drew)); exact Kd.R_mono (Kd.R_far (p := ⟨gb323, 1, none⟩) (Kd.R_far (p := ⟨gb323, 0, none⟩) (Kd.R_far (p := ⟨gb321, 0, none⟩) (Kd.R_types (Kd.R_types HO_322001.out BK321.out (by decide)) BK323.out (by decide)) (fun _ hk => hk.1.2) (.slice Ao61 y362.length co61)) (fun _ hk => hk.2) (.slice Ao61 y362.length co61)) (fun _ hk => hk.2) (.slice Ao4 l0_1.length co4)) (fun _ hk => hk.1.1), bs HB.out, ts HK.out⟩
        ·rw [if_neg c47] at H
         exact absurd H (by simp)
       ·rw [if_neg c46] at H
        exact absurd H (by simp)
      ·rw [if_neg c44] at H
       exact absurd H (by simp)
     ·rw [if_neg c43] at H
      exact absurd H (by simp)
    ·rw [if_neg c42] at H
     exact absurd H (by simp)

/-! ### spec_l2EdgeAt: function 144 -/
def spec_l2EdgeAt.l0 : Nat → Int → List (S36) → List (S56) → Int → Int → Int → Int → Int → Option (Int)
 | 0, _, _, _, _, _, _, _, _ => none
 | k + 1, x5, x366000, x366001, x367000, x367001, x367002, x367003, x367004 => if x5 < (x366001.length : Int) then (if 0 ≤ x5 then (if (((rd_T56 x366001 x5).f0) == x367000 && ((((rd_T56 x366001 x5).f1.f0) == x367001 && (((rd_T56 x366001 x5).f1.f1) == x367002)) && ((((rd_T56 x366001 x5).f2.f0) == x367003 && (((rd_T56 x366001 x5).f2.f1) == x367004))))) = true then (some x5) else (spec_l2EdgeAt.l0 k (wrap64 (x5 + 1)) x366000 x366001 x367000 x367001 x367002 x367003 x367004)) else (none)) else (some (-1))
def spec_l2EdgeAt.f (k : Nat) (l0_0 : List (S36)) (l0_1 : List (S56)) (a1_0 : Int) (a1_1 : Int) (a1_2 : Int) (a1_3 : Int) (a1_4 : Int) : Option (Int) := spec_l2EdgeAt.l0 k 0 l0_0 l0_1 a1_0 a1_1 a1_2 a1_3 a1_4
theorem spec_l2EdgeAt.calls (k : Nat) (A0_0 : Option Addr) (c0_0 : Nat) (l0_0 : List (S36)) (A0_1 : Option Addr) (c0_1 : Nat) (l0_1 : List (S56)) (a1_0 : Int) (a1_1 : Int) (a1_2 : Int) (a1_3 : Int) (a1_4 : Int) (r : Int) (w : World) (hr0_0 : Kd.C k36 w A0_0 l0_0.length l0_0) (hc0_0 : l0_0.length ≤ c0_0) (hr0_1 : Kd.C k56 w A0_1 l0_1.length l0_1) (hc0_1 : l0_1.length ≤ c0_1) (h : spec_l2EdgeAt.f k l0_0 l0_1 a1_0 a1_1 a1_2 a1_3 a1_4 = some r) :
  Calls Try.prog 144 #[.agg #[.slice A0_0 l0_0.length c0_0, .slice A0_1 l0_1.length c0_1], .agg #[.int .i64 a1_0, .int .i64 a1_1, .int .i64 a1_2, .int .i64 a1_3, .int .i64 a1_4]] w fun e w' => e = .returned (.int .i64 r) ∧ Below w.heap.size w w' := by
 have hu34 := Try.underlying34
 have hu56 := Try.underlying56
 have HR0_0 := Aside0.mk hr0_0
 have HC0_0 := Aside0.mk hc0_0
 clear hr0_0 hc0_0
 have HR0_1 := Aside0.mk hr0_1
 have HC0_1 := Aside0.mk hc0_1
 clear hr0_1 hc0_1
 have HB := Aside0.mk (Below.refl w.heap.size w)
 have H := h; unfold spec_l2EdgeAt.f at H
 clear h
 have H' := Aside0.mk H
 clear H
 go_enter Try.func144, Try.ntmps144
 go_wp2_with (first | ((with_reducible refine gd 2 rfl ?_); refine bx 2 (cs := #[.slice A0_0 l0_0.length c0_0, .slice A0_1 l0_1.length c0_1]) (t := 34) ?_; intro gb365 hg w3 hbox hb; have BK365 := Aside0.mk (hbox); have GW365 := gwb HB hg; replace HB := hs HB hb; clear hb hbox hg) | ((with_reducible refine gd 3 rfl ?_); refine bx 3 (cs := #[.int .i64 a1_0, .int .i64 a1_1, .int .i64 a1_2, .int .i64 a1_3, .int .i64 a1_4]) (t := 56) ?_; intro gb366 hg w4 hbox hb; have BK366 := Aside0.mk (hbox); have GW366 := gwb HB hg; replace HB := hs HB hb; have NB365_366 := nq BK365 hg; have NB366_365 := nq' BK365 hg; replace BK365 := bb BK365 hb rfl; clear hb hbox hg))
 repeat (go_quiet (first | ((with_reducible refine gd 2 rfl ?_); refine bx 2 (cs := #[.slice A0_0 l0_0.length c0_0, .slice A0_1 l0_1.length c0_1]) (t := 34) ?_; intro gb365 hg w3 hbox hb; have BK365 := Aside0.mk (hbox); have GW365 := gwb HB hg; replace HB := hs HB hb; clear hb hbox hg) | ((with_reducible refine gd 3 rfl ?_); refine bx 3 (cs := #[.int .i64 a1_0, .int .i64 a1_1, .int .i64 a1_2, .int .i64 a1_3, .int .i64 a1_4]) (t := 56) ?_; intro gb366 hg w4 hbox hb; have BK366 := Aside0.mk (hbox); have GW366 := gwb HB hg; replace HB := hs HB hb; have NB365_366 := nq BK365 hg; have NB366_365 := nq' BK365 hg; replace BK365 := bb BK365 hb rfl; clear hb hbox hg)); try go_wp2_with (first | ((with_reducible refine gd 2 rfl ?_); refine bx 2 (cs := #[.slice A0_0 l0_0.length c0_0, .slice A0_1 l0_1.length c0_1]) (t := 34) ?_; intro gb365 hg w3 hbox hb; have BK365 := Aside0.mk (hbox); have GW365 := gwb HB hg; replace HB := hs HB hb; clear hb hbox hg) | ((with_reducible refine gd 3 rfl ?_); refine bx 3 (cs := #[.int .i64 a1_0, .int .i64 a1_1, .int .i64 a1_2, .int .i64 a1_3, .int .i64 a1_4]) (t := 56) ?_; intro gb366 hg w4 hbox hb; have BK366 := Aside0.mk (hbox); have GW366 := gwb HB hg; replace HB := hs HB hb; have NB365_366 := nq BK365 hg; have NB366_365 := nq' BK365 hg; replace BK365 := bb BK365 hb rfl; clear hb hbox hg)))
 go_loopg [5] k (fun kq v5 w' => ∃ (x5_1 : Int), v5 = .int .i64 x5_1 ∧ Aside0 (spec_l2EdgeAt.l0 kq x5_1 l0_0 l0_1 a1_0 a1_1 a1_2 a1_3 a1_4 = some r) ∧ Aside0 (kq ≤ k) ∧ Aside0 (w'.heap[gb365]? = some (.cells #[(.slice A0_0 l0_0.length c0_0), (.slice A0_1 l0_1.length c0_1)] 34 (0, 0))) ∧ Aside0 (w'.heap[gb366]? = some (.cells #[.int .i64 a1_0, .int .i64 a1_1, .int .i64 a1_2, .int .i64 a1_3, .int .i64 a1_4] 56 (0, 0))) ∧ Aside0 (Below w.heap.size w w'))
 case atStart => exact ⟨(0), eqs, H', ⟨Nat.le_refl _⟩, ⟨bf BK365.out⟩, ⟨bf BK366.out⟩, ⟨bs HB.out⟩⟩
 case round =>
  clear H'
  try clear c1
  try clear p2
  obtain ⟨x5_1, rfl, HA, HK1, BK365, BK366, HB⟩ := hrel
  cases gk with
  | zero => exact absurd HA.out (by simp [spec_l2EdgeAt.l0])
  | succ k1 =>
   have H := HA.out
   clear HA
   simp only [spec_l2EdgeAt.l0] at H
   by_cases c5 : x5_1 < (l0_1.length : Int)
   ·rw [if_pos c5] at H
    have c5b0 : decide (x5_1 < (l0_1.length : Int)) = true := decide_eq_true c5
    clear c5
    by_cases c6 : 0 ≤ x5_1
    ·rw [if_pos c6] at H
     have c6b0 : decide (0 ≤ x5_1) = true := decide_eq_true c6
     clear c6
     by_cases c7 : (((rd_T56 l0_1 x5_1).f0) == a1_0 && ((((rd_T56 l0_1 x5_1).f1.f0) == a1_1 && (((rd_T56 l0_1 x5_1).f1.f1) == a1_2)) && ((((rd_T56 l0_1 x5_1).f2.f0) == a1_3 && (((rd_T56 l0_1 x5_1).f2.f1) == a1_4))))) = true
     ·rw [if_pos c7] at H
      have c7b0 : (((rd_T56 l0_1 x5_1).f0) == a1_0 && ((((rd_T56 l0_1 x5_1).f1.f0) == a1_1 && (((rd_T56 l0_1 x5_1).f1.f1) == a1_2)) && ((((rd_T56 l0_1 x5_1).f2.f0) == a1_3 && (((rd_T56 l0_1 x5_1).f2.f1) == a1_4))))) = true := c7
      (try (have c7b1 : decide (((rd_T56 l0_1 x5_1).f0) = a1_0 && ((((rd_T56 l0_1 x5_1).f1.f0) == a1_1 && (((rd_T56 l0_1 x5_1).f1.f1) == a1_2)) && ((((rd_T56 l0_1 x5_1).f2.f0) == a1_3 && (((rd_T56 l0_1 x5_1).f2.f1) == a1_4))))) = true := by simpa using c7))
      (try (have c7b2 : (((rd_T56 l0_1 x5_1).f0) == a1_0 && ((((rd_T56 l0_1 x5_1).f1.f0) == a1_1 && (((rd_T56 l0_1 x5_1).f1.f1) == a1_2)) && ((((rd_T56 l0_1 x5_1).f2.f0) == a1_3 && (((rd_T56 l0_1 x5_1).f2.f1) == a1_4))))) = true := by simpa using c7))
      clear c7
      obtain rfl := Option.some.inj H
      have hnb8 := NB365_366.out
      have hnc8 := NB366_365.out
      obtain ⟨hcz9_0, hcz9_1⟩ := bc2 (w := wr) BK365.out
      have hfz9 := blk_frozen BK365.out
      have p367 : 0 ≤ (x5_1 : Int) := oda
      have q367 : x5_1 < (l0_1.length : Int) := oda
      obtain ⟨ad367, e367, hx367_0, hx367_1, hx367_2, hx367_3, hx367_4⟩ := at_T56 HR0_1.out x5_1 p367 q367
      cases e367
      replace hx367_0 := cb HB hx367_0
      replace hx367_1 := cb HB hx367_1
      replace hx367_2 := cb HB hx367_2
      replace hx367_3 := cb HB hx367_3
      replace hx367_4 := cb HB hx367_4
      replace p367 := eq_true p367
      replace q367 := eq_true q367
      obtain ⟨hcz10_0, hcz10_1, hcz10_2, hcz10_3, hcz10_4⟩ := bc5 (w := wr) BK366.out
      have hfz10 := blk_frozen BK366.out
      go_wp2
      repeat (go_quiet (fail); try go_wp2)
      go_ret
      exact ⟨eqr, bs HB.out⟩
     ·rw [if_neg c7] at H
      have c7b0 : (((rd_T56 l0_1 x5_1).f0) == a1_0 && ((((rd_T56 l0_1 x5_1).f1.f0) == a1_1 && (((rd_T56 l0_1 x5_1).f1.f1) == a1_2)) && ((((rd_T56 l0_1 x5_1).f2.f0) == a1_3 && (((rd_T56 l0_1 x5_1).f2.f1) == a1_4))))) = false := by simpa using c7
      (try (have c7b1 : decide (((rd_T56 l0_1 x5_1).f0) = a1_0 && ((((rd_T56 l0_1 x5_1).f1.f0) == a1_1 && (((rd_T56 l0_1 x5_1).f1.f1) == a1_2)) && ((((rd_T56 l0_1 x5_1).f2.f0) == a1_3 && (((rd_T56 l0_1 x5_1).f2.f1) == a1_4))))) = false := by simpa using c7))
      (try (have c7b2 : (((rd_T56 l0_1 x5_1).f0) == a1_0 && ((((rd_T56 l0_1 x5_1).f1.f0) == a1_1 && (((rd_T56 l0_1 x5_1).f1.f1) == a1_2)) && ((((rd_T56 l0_1 x5_1).f2.f0) == a1_3 && (((rd_T56 l0_1 x5_1).f2.f1) == a1_4))))) = false := by simpa using c7))
      (try (have c7b3 : ¬ (((rd_T56 l0_1 x5_1).f0) = a1_0 && ((((rd_T56 l0_1 x5_1).f1.f0) == a1_1 && (((rd_T56 l0_1 x5_1).f1.f1) == a1_2)) && ((((rd_T56 l0_1 x5_1).f2.f0) == a1_3 && (((rd_T56 l0_1 x5_1).f2.f1) == a1_4))))) := by simpa using c7))
      clear c7
      have H' := Aside0.mk H
      clear H
      have hnb11 := NB365_366.out
      have hnc11 := NB366_365.out
      obtain ⟨hcz12_0, hcz12_1⟩ := bc2 (w := wr) BK365.out
      have hfz12 := blk_frozen BK365.out
      have p367 : 0 ≤ (x5_1 : Int) := oda
      have q367 : x5_1 < (l0_1.length : Int) := oda
      obtain ⟨ad367, e367, hx367_0, hx367_1, hx367_2, hx367_3, hx367_4⟩ := at_T56 HR0_1.out x5_1 p367 q367
      cases e367
      replace hx367_0 := cb HB hx367_0
      replace hx367_1 := cb HB hx367_1
      replace hx367_2 := cb HB hx367_2
      replace hx367_3 := cb HB hx367_3
      replace hx367_4 := cb HB hx367_4
      replace p367 := eq_true p367
      replace q367 := eq_true q367
      obtain ⟨hcz13_0, hcz13_1, hcz13_2, hcz13_3, hcz13_4⟩ := bc5 (w := wr) BK366.out
      have hfz13 := blk_frozen BK366.out
      go_wp2
      repeat (go_quiet (fail); try go_wp2)
      go_roundg k1
      case measure => have := HK1.out; omega
      case rel => exact ⟨(wrap64 (x5_1 + 1)), eqs, H', ⟨by have := HK1.out; omega⟩, ⟨bf BK365.out⟩, ⟨bf BK366.out⟩, ⟨bs HB.out⟩⟩
    ·rw [if_neg c6] at H
     exact absurd H (by simp)
   ·rw [if_neg c5] at H
    have c5b0 : decide (x5_1 < (l0_1.length : Int)) = false := decide_eq_false c5
    clear c5
    obtain rfl := Option.some.inj H
    have hnb14 := NB365_366.out
    have hnc14 := NB366_365.out
    obtain ⟨hcz15_0, hcz15_1⟩ := bc2 (w := wr) BK365.out
    have hfz15 := blk_frozen BK365.out
    go_wp2
    repeat (go_quiet (fail); try go_wp2)
    go_ret
    exact ⟨eqr, bs HB.out⟩

end Go.Proofs.Ytohmemckdogljaa.QFnGraphView
