/- Contracts of the Go functions that this law reaches: each does what its plain Lean function says. No condition. -/
import Derived.Test.YtohmemckdogljaaQFnExactWalkCorex0
import Derived.Test.YtohmemckdogljaaQFnExactWalkCorex1
import Derived.Test.YtohmemckdogljaaQFnExactWalkCorex8
import Derived.Test.YtohmemckdogljaaQFnExactWalkCorex9
import Derived.Test.YtohmemckdogljaaQFnExactWalkCorex10
namespace Go.Proofs.Ytohmemckdogljaa.QFnExactWalkCore
open Go.RowKit Go.Proofs.YtohmemckdogljaaW.PrintWords Go.Proofs.YtohmemckdogljaaW.PrintLast Go.Proofs.YtohmemckdogljaaW.PrintMore Go.Proofs.Ytohmemckdogljaa.Bl
attribute [local go_sem] max2_int min2_int max_two min_two max_three min_three max_four min_four   -- for this text's walks alone
set_option linter.unusedVariables false
set_option linter.unusedSimpArgs false
set_option maxHeartbeats 8000000
set_option maxRecDepth 100000

attribute [local go_sem high] eqA36
/-! ### impl_Node_106: function 106 -/
/-! clear(s[m:]) of a made row of nodes -/
theorem zeros_len (n : Nat) : (Builtin.zeroCells (Value.agg #[.int .i64 0, .int .i64 0]).cells n).toList.length = n * 2 := by
  simp [Builtin.zeroCells, Value.cells]
theorem zeros_one (n : Nat) : ∀ v ∈ (Builtin.zeroCells (Value.agg #[.int .i64 0, .int .i64 0]).cells n).toList, v.oneCell' = true := by
  intro v hv
  simp [Builtin.zeroCells, Value.cells] at hv
  obtain ⟨i, _, rfl⟩ := hv
  rcases Nat.mod_two_eq_zero_or_one i with h | h <;> simp [h, Value.oneCell']
theorem clear_N {w : World} {base g cap n n2 c2 m : Nat} {ok : Nat → Prop} {A : Option Addr} {xs : List S36} (h : Kd.R k36 36 w base ok (.slice (some ⟨g, 0, none⟩) n cap) xs) (hm : m ≤ xs.length)
    (hA : A = if cap = m then some ⟨g, 0, none⟩ else (some (⟨g, 0, none⟩ : Addr)).map (·.add (m * 2))) (hn : n2 = xs.length - m) :
    ∃ w', (∀ ty, (Builtin.clear_ #[29] ty #[.slice A n2 c2]).run Try.prog w = .ok (.tuple #[]) w') ∧ w.grownBy w' (some g) ∧ Kd.R k36 36 w' base ok (.slice (some ⟨g, 0, none⟩) m cap) (xs.take m) := by
  by_cases h0 : n2 = 0
  · subst h0
    refine ⟨w, fun ty => ?_, ⟨rfl, rfl, rfl, Nat.le_refl _, fun _ _ _ => rfl⟩, Kd.R_take h hm⟩
    cases A <;> simp [Builtin.clear_, run_underlying Try.underlying29]
  · have hp : 0 < xs.length := by omega
    obtain ⟨g', cap', rest, he, hok, hbg, hh, hcl, hnc, hcm⟩ := R_blk h hp
    injection he with ha hb hc
    injection ha with ha
    injection ha with ha
    subst ha hb hc
    rw [if_neg (by omega)] at hA
    have y : A = some ⟨g, m * 2, none⟩ := by rw [hA]; simp [Addr.add]; omega
    clear hA
    subst y
    obtain ⟨zs, hzs⟩ : ∃ zs, zs = (Builtin.zeroCells (Value.agg #[.int .i64 0, .int .i64 0]).cells n2).toList := ⟨_, rfl⟩
    have hzl : zs.length = n2 * 2 := by rw [hzs]; exact zeros_len n2
    have D : ∀ v ∈ zs, v.oneCell' = true := by rw [hzs]; exact zeros_one n2
    have hen := encN_len xs
    have hfit : m * 2 + zs.length ≤ (encN xs ++ rest).toArray.size := by simp only [List.size_toArray, List.length_append]; omega
    have hst := run_storeCells_cells (P := Try.prog) g (m * 2) zs 0 w (fun j hj => by rw [cell_of_row w g _ _ 36 (0, 0) hh]; simp only [Nat.add_zero]; rw [Array.getElem?_eq_getElem (by omega)]; rfl) (fun j _ => blk_frozen hh _) D
    simp only [Nat.add_zero] at hst
    obtain ⟨cur', G, c2', I⟩ := setCells_row zs (m * 2) w _ hh hfit
    obtain ⟨s1, s2, s3, s4⟩ := setCells_same g zs (m * 2) w
    have J : (encN xs ++ rest).take (m * 2) = encN (xs.take m) := by
      have hl : (encN (xs.take m)).length = m * 2 := by rw [encN_len, List.length_take]; omega
      have h2 : encN xs = encN (xs.take m) ++ encN (xs.drop m) := by rw [← encN_app, List.take_append_drop]
      rw [h2, List.append_assoc]
      exact List.take_left' hl
    refine ⟨w.setCells g (m * 2) zs, fun ty => ?_, ⟨s1, s2, s3, Nat.le_of_eq s4.symm, fun k _ hk => setCells_far zs (m * 2) k (fun e => hk (by rw [e]))⟩, ?_⟩
    · obtain ⟨q, rfl⟩ : ∃ q, n2 = q + 1 := ⟨n2 - 1, by omega⟩
      simp [Builtin.clear_, run_underlying Try.underlying29, Try.zeroValue36, ← hzs, hst]
    · have hl : (xs.take m).length = m := by rw [List.length_take]; omega
      have s : cur'.toList = encN (xs.take m) ++ (zs ++ (encN xs ++ rest).drop (m * 2 + zs.length)) := by
        rw [I, ← J, List.append_assoc]
      have hh' : (w.setCells g (m * 2) zs).heap[g]? = some (.cells (encN (xs.take m) ++ (zs ++ (encN xs ++ rest).drop (m * 2 + zs.length))).toArray 36 (0, 0)) := by
        rw [← s]; exact G
      have := blk_R (base := base) (ok := ok) (cap := cap) hh' (by rw [← s, Array.length_toList, c2']; simpa using hcl) (by omega) hcm hok hbg
      rw [hl] at this
      exact this
theorem rAt {w w' : World} {m base : Nat} {ok : Nat → Prop} {v : Value} {xs : List S36} (hq : w.drewN m = w') (h : Kd.R k36 36 w base ok v xs) : Kd.R k36 36 w' base ok v xs := by subst hq; exact Kd.R_drewN h m
theorem kAt {u w w' : World} {m : Nat} {S : Nat → Prop} (hq : w.drewN m = w') (h : Kept u w S) : Kept u w' S := by subst hq; exact Kept.drewN h m
theorem bAt {u w w' : World} {m B : Nat} (hq : w.drewN m = w') (h : Below B u w) : Below B u w' := by subst hq; exact pw_below_drewN h m
mutual
def impl_Node_106.l0 : Nat → List (S36) → Int → Option ((List (S36)))
 | 0, _, _ => none
 | k + 1, y, s => if s < (y.length : Int) then (if 0 ≤ s then (if 0 ≤ (wrap64 (s - 1)) then (if (wrap64 (s - 1)) < (y.length : Int) then (if (((rd_T36 y s).f0) == ((rd_T36 y (wrap64 (s - 1))).f0) && (((rd_T36 y s).f1) == ((rd_T36 y (wrap64 (s - 1))).f1))) = true then (if s ≤ (y.length : Int) then (impl_Node_106.l1 k y s s 1) else (none)) else (impl_Node_106.l0 k y (wrap64 (s + 1)))) else (none)) else (none)) else (none)) else (some y)
def impl_Node_106.l1 : Nat → List (S36) → Int → Int → Int → Option ((List (S36)))
 | 0, _, _, _, _ => none
 | k + 1, s, z, m, y => if y < ((s.drop m.toNat).length : Int) then (if 0 ≤ y then (if 0 ≤ (wrap64 (y - 1)) then (if (wrap64 (y - 1)) < ((s.drop m.toNat).length : Int) then (if (!(((rd_T36 (s.drop m.toNat) y).f0) == ((rd_T36 (s.drop m.toNat) (wrap64 (y - 1))).f0)) || (!(((rd_T36 (s.drop m.toNat) y).f1) == ((rd_T36 (s.drop m.toNat) (wrap64 (y - 1))).f1)))) = true then (if 0 ≤ z then (if z < (s.length : Int) then (impl_Node_106.l1 k (s.set (z : Int).toNat (⟨(rd_T36 (s.drop m.toNat) y).f0, (rd_T36 (s.drop m.toNat) y).f1⟩ : S36)) (wrap64 (z + 1)) m (wrap64 (y + 1))) else (none)) else (none)) else (impl_Node_106.l1 k s z m (wrap64 (y + 1)))) else (none)) else (none)) else (none)) else (if 0 ≤ z then (if z ≤ (s.length : Int) then (some (s.take (z : Int).toNat)) else (none)) else (none))
end
def impl_Node_106.f (k : Nat) (l0 : List (S36)) : Option ((List (S36))) := if (l0.length : Int) < 2 then (some l0) else (impl_Node_106.l0 k l0 1)
theorem impl_Node_106.calls (k : Nat) (P0_ : Nat → Prop) (bg : Value) (l0 : List (S36)) (r : List (S36)) (w0 w : World) (hB : Below w0.heap.size w0 w) (cg : Kd.R k36 36 w w0.heap.size P0_ bg l0) (h : impl_Node_106.f k l0 = some r) :
  Calls Try.prog 106 #[bg] w fun e w' => ∃ bM : Value, e = .returned (bM) ∧ Kd.R k36 36 w' w0.heap.size (fun k_ => (P0_ k_ ∨ w.heap.size ≤ k_)) bM r ∧ Below w0.heap.size w0 w' ∧ Kept w w' (fun k_ => P0_ k_) := by
 have hu36 := Try.underlying36
 have aW := am (show Kd.R k36 36 w w0.heap.size (fun k_ => (P0_ k_ ∨ w.heap.size ≤ k_)) bg l0 from Kd.R_mono cg (fun k_ hk => (.inl hk)))
 have HK := am (Kept.refl w (fun k_ => P0_ k_))
 have cU := am hB.size
 have HB := am hB
 clear hB
 have H := h; unfold impl_Node_106.f at H
 clear h
 by_cases c2 : (l0.length : Int) < 2
 ·rw [if_pos c2] at H
  have bh : decide ((l0.length : Int) < 2) = true := decide_eq_true c2
  have aX : decide (l0.length < 2) = true := decide_eq_true (by omega)
  clear c2
  obtain rfl := Option.some.inj H
  obtain ⟨cV, cW, ch⟩ := Kd.R_slice aW.out
  subst ch
  go_enter Try.func106, Try.ntmps106
  go_wp2
  repeat (go_quiet (fail); try go_wp2)
  go_ret
  exact ⟨_, eqr, by (with_reducible repeat (first | apply Kd.R_alloc | apply Kd.R_drewN | apply Kd.R_drew)); exact aW.out, bs HB.out, ts HK.out⟩
 ·rw [if_neg c2] at H
  have bh : decide ((l0.length : Int) < 2) = false := decide_eq_false c2
  have aX : decide (l0.length < 2) = false := decide_eq_false (by omega)
  clear c2
  have H' := am H
  clear H
  have HLP := am (show 2 ≤ l0.length from by simp at aX; omega)
  obtain ⟨L, O, ci, bN, cj, cX, ck⟩ := Kd.R_form aW.out (by have := HLP.out; omega)
  subst ci
  have bO := am bN
  clear bN cj ck
  go_enter Try.func106, Try.ntmps106
  go_wp2
  repeat (go_quiet (fail); try go_wp2)
  go_loopg [3] k (fun kq v3 w' => ∃ (y : List (S36)) (D : Int), v3 = .int .i64 D ∧ Aside0 (impl_Node_106.l0 kq y D = some r) ∧ Aside0 (kq ≤ k) ∧ Aside0 (Kd.R k36 36 w' w0.heap.size (fun k_ => (P0_ k_ ∨ w.heap.size ≤ k_)) (.slice (some ⟨L, 0, none⟩) l0.length O) y) ∧ Aside0 (Kept w w' (fun k_ => P0_ k_)) ∧ Aside0 (Below w0.heap.size w0 w'))
  case atStart => exact ⟨(l0), (1), eqs, H', ⟨Nat.le_refl _⟩, ⟨rl aW.out⟩, ⟨ts HK.out⟩, ⟨bs HB.out⟩⟩
  case round =>
   clear H'
   try clear c1
   try clear c2
   try clear bh
   try clear aX
   try clear p2
   obtain ⟨y, D, rfl, HA, ay, G, HK, HB⟩ := hrel
   have hl0_1 := (Kd.R_reads' G.out).1
   rw [hl0_1] at G
   (try simp only [hl0_1])
   cases gk with
   | zero => exact absurd HA.out (by simp [impl_Node_106.l0])
   | succ k1 =>
    have H := HA.out
    clear HA
    simp only [impl_Node_106.l0] at H
    by_cases c5 : D < (y.length : Int)
    ·rw [if_pos c5] at H
     have bP : decide (D < (y.length : Int)) = true := decide_eq_true c5
     clear c5
     by_cases c6 : 0 ≤ D
     ·rw [if_pos c6] at H
      have cl : decide (0 ≤ D) = true := decide_eq_true c6
      clear c6
      obtain ⟨M, bi⟩ : ∃ j_ : Int, (wrap64 (D - 1)) = j_ := ⟨_, rfl⟩
      replace H : (if 0 ≤ (M) then (if (M) < (y.length : Int) then (if (((rd_T36 y D).f0) == ((rd_T36 y (M)).f0) && (((rd_T36 y D).f1) == ((rd_T36 y (M)).f1))) = true then (if D ≤ (y.length : Int) then (impl_Node_106.l1 k1 y D D 1) else (none)) else (impl_Node_106.l0 k1 y (wrap64 (D + 1)))) else (none)) else (none)) = some r := by first | (rw [bi] at H; exact H) | (simp only [bi] at H ⊢; exact H)
      have cY : (IntKind.i64.wrap (D - 1)) = M := (i64_w _).trans bi
      by_cases c8 : 0 ≤ (M)
      ·rw [if_pos c8] at H
       have cm : decide (0 ≤ (M)) = true := decide_eq_true c8
       clear c8
       by_cases c9 : (M) < (y.length : Int)
       ·rw [if_pos c9] at H
        have cn : decide ((M) < (y.length : Int)) = true := decide_eq_true c9
        clear c9
        by_cases ab : (((rd_T36 y D).f0) == ((rd_T36 y (M)).f0) && (((rd_T36 y D).f1) == ((rd_T36 y (M)).f1))) = true
        ·rw [if_pos ab] at H
         have bQ : (((rd_T36 y D).f0) == ((rd_T36 y (M)).f0) && (((rd_T36 y D).f1) == ((rd_T36 y (M)).f1))) = true := ab
         (try (have bR : decide (((rd_T36 y D).f0) = ((rd_T36 y (M)).f0) && (((rd_T36 y D).f1) == ((rd_T36 y (M)).f1))) = true := by simpa using ab))
         (try (have bS : (((rd_T36 y D).f0) == ((rd_T36 y (M)).f0) && (((rd_T36 y D).f1) == ((rd_T36 y (M)).f1))) = true := by simpa using ab))
         clear ab
         have co := eq_true (oda : 0 ≤ D)
         by_cases az : D ≤ (y.length : Int)
         ·rw [if_pos az] at H
          have cp := eq_true az
          have ct : decide (D ≤ (y.length : Int)) = true := decide_eq_true az
          clear az
          obtain ⟨Z, bj⟩ : ∃ y_ : List (S36), y_ = (y.drop (D : Int).toNat) := ⟨_, rfl⟩
          replace H : (impl_Node_106.l1 k1 y D D 1) = some r := by first | (rw [bj]; exact H) | exact H
          have bT := am bj
          clear bj
          have H' := am H
          clear H
          have ag : 0 ≤ (D : Int) := oda
          have ah : D < (y.length : Int) := oda
          obtain ⟨cu, bk, aE, aG⟩ := at_T36 (Kd.R_reads' G.out).2.2 D ag ah
          cases bk
          simp only [add_plain] at aE aG
          replace ag := eq_true ag
          replace ah := eq_true ah
          have ai : 0 ≤ ((M) : Int) := oda
          have aj : (M) < (y.length : Int) := oda
          obtain ⟨cv, bl, aH, aI⟩ := at_T36 (Kd.R_reads' G.out).2.2 (M) ai aj
          cases bl
          simp only [add_plain] at aH aI
          replace ai := eq_true ai
          replace aj := eq_true aj
          have aJ : (D : Int) ≤ ((y.length : Int) : Int) := oda
          obtain ⟨cZ, bU, _, bV, _⟩ := info_parts info36
          have bm : y.length ≤ O := (Kd.R_reads' G.out).2.1
          have bW : Kd.C k36 _ (some ⟨L, 0, none⟩) y.length y := (Kd.R_reads' G.out).2.2
          have bX : (0 : Int) ≤ (D : Int) := oda
          have cy := cut_from (P := Try.prog) 29 36 .i64 Try.underlying29 bU 2 bV (some ⟨L, 0, none⟩) y.length O D bX aJ
          have aK := Kd.C_drop (m := (D : Int).toNat) (c := O) bW (by omega) bm
          obtain ⟨bY, aY⟩ : ∃ A1, A1 = (if O = (D : Int).toNat then (some ⟨L, 0, none⟩) else ((some ⟨L, 0, none⟩) : Option Addr).map (·.add ((D : Int).toNat * 2))) := ⟨_, rfl⟩
          obtain ⟨bZ, bn⟩ : ∃ c1, c1 = O - (D : Int).toNat := ⟨_, rfl⟩
          have aZ : Z.length = y.length - (D : Int).toNat := (by rw [bT.out, List.length_drop] <;> omega)
          rw [show (y).drop (D : Int).toNat = Z from bT.out.symm] at aK
          replace aK : Kd.C k36 _ bY Z.length Z := (by rw [aY]; exact aK)
          rw [← aZ, ← aY, ← bn] at cy
          have c0 := am aK
          have da := am (show Z.length ≤ bZ from by rw [aZ, bn]; exact Nat.sub_le_sub_right bm _)
          clear aK bW bm bU bV bn
          have cz := am aZ
          have cA := am aY
          clear aZ aY
          have cB := am (show (D : Int).toNat ≤ y.length from by omega)
          replace aJ := eq_true aJ
          go_wp2
          repeat (go_quiet (fail); try go_wp2)
          go_loopg [3, 5] k1 (fun kq v3 v5 w' => ∃ (J : List (S36)) (s : Int) (z : Int), v3 = .int .i64 s ∧ v5 = .int .i64 z ∧ Aside0 (impl_Node_106.l1 kq J s D z = some r) ∧ Aside0 (kq ≤ k1) ∧ Aside0 (Kd.R k36 36 w' w0.heap.size (fun k_ => (P0_ k_ ∨ w.heap.size ≤ k_)) (.slice (some ⟨L, 0, none⟩) y.length O) J) ∧ Aside0 (Kept w w' (fun k_ => P0_ k_)) ∧ Aside0 (Below w0.heap.size w0 w'))
          case atStart => exact ⟨(y), (D), (1), eqs, eqs, H', ⟨Nat.le_refl _⟩, ⟨by (try simp only [hl0_1]); (with_reducible repeat (first | apply Kd.R_alloc | apply Kd.R_drewN | apply Kd.R_drew)); exact G.out⟩, ⟨ts HK.out⟩, ⟨bs HB.out⟩⟩
          case round =>
           clear H'
           try clear c1
           try clear q1
           try clear c2
           try clear bh
           try clear aX
           try clear p2
           try clear q2
           try clear db
           try clear c5
           try clear bP
           try clear c6
           try clear cl
           try clear p6
           try clear c8
           try clear cm
           try clear c9
           try clear cn
           try clear ab
           try clear bQ
           try clear bR
           try clear bS
           try clear dc
           try clear co
           try clear az
           try clear cp
           try clear ct
           try clear bZ
           try clear aJ
           try clear aE
           try clear aG
           try clear aH
           try clear aI
           try clear p2
           try clear ag
           try clear ai
           try clear bX
           try clear aJ
           try clear ah
           try clear aj
           obtain ⟨J, s, z, rfl, rfl, HA, a4, G, HK, HB⟩ := hrel
           have hl0_2 := (Kd.R_reads' G.out).1
           rw [hl0_2] at G
           (try simp only [hl0_2])
           cases gk with
           | zero => exact absurd HA.out (by simp [impl_Node_106.l1])
           | succ k2 =>
            have H := HA.out
            clear HA
            simp only [impl_Node_106.l1] at H
            have hm1_ : (D : Int).toNat ≤ J.length := by have := cB.out; omega
            obtain ⟨I, aM⟩ : ∃ y_ : List (S36), y_ = (J.drop (D : Int).toNat) := ⟨_, rfl⟩
            have hyl : I.length = Z.length := by rw [cz.out, aM, List.length_drop, hl0_2]
            rw [← aM, hyl] at H
            have hrd := Kd.C_drop (m := (D : Int).toNat) (c := O) (Kd.R_reads' G.out).2.2 hm1_ (Kd.R_reads' G.out).2.1
            rw [← aM, hyl] at hrd
            have aN := am (show Kd.C k36 wr bY Z.length I from by rw [cA.out]; exact hrd)
            clear hrd hm1_ hyl
            have dd := am aM
            clear aM
            by_cases aA : z < (Z.length : Int)
            ·rw [if_pos aA] at H
             have cC : decide (z < (Z.length : Int)) = true := decide_eq_true aA
             clear aA
             by_cases a5 : 0 ≤ z
             ·rw [if_pos a5] at H
              have de : decide (0 ≤ z) = true := decide_eq_true a5
              clear a5
              obtain ⟨X, bo⟩ : ∃ j_ : Int, (wrap64 (z - 1)) = j_ := ⟨_, rfl⟩
              replace H : (if 0 ≤ (X) then (if (X) < (Z.length : Int) then (if (!(((rd_T36 I z).f0) == ((rd_T36 I (X)).f0)) || (!(((rd_T36 I z).f1) == ((rd_T36 I (X)).f1)))) = true then (if 0 ≤ s then (if s < (J.length : Int) then (impl_Node_106.l1 k2 (J.set (s : Int).toNat (⟨(rd_T36 I z).f0, (rd_T36 I z).f1⟩ : S36)) (wrap64 (s + 1)) D (wrap64 (z + 1))) else (none)) else (none)) else (impl_Node_106.l1 k2 J s D (wrap64 (z + 1)))) else (none)) else (none)) = some r := by first | (rw [bo] at H; exact H) | (simp only [bo] at H ⊢; exact H)
              have df : (IntKind.i64.wrap (z - 1)) = X := (i64_w _).trans bo
              by_cases a6 : 0 ≤ (X)
              ·rw [if_pos a6] at H
               have dg : decide (0 ≤ (X)) = true := decide_eq_true a6
               clear a6
               by_cases a7 : (X) < (Z.length : Int)
               ·rw [if_pos a7] at H
                have dh : decide ((X) < (Z.length : Int)) = true := decide_eq_true a7
                clear a7
                by_cases aC : (!(((rd_T36 I z).f0) == ((rd_T36 I (X)).f0)) || (!(((rd_T36 I z).f1) == ((rd_T36 I (X)).f1)))) = true
                ·rw [if_pos aC] at H
                 have cD : (!(((rd_T36 I z).f0) == ((rd_T36 I (X)).f0)) || (!(((rd_T36 I z).f1) == ((rd_T36 I (X)).f1)))) = true := aC
                 clear aC
                 by_cases a8 : 0 ≤ s
                 ·rw [if_pos a8] at H
                  have di : decide (0 ≤ s) = true := decide_eq_true a8
                  clear a8
                  by_cases a9 : s < (J.length : Int)
                  ·rw [if_pos a9] at H
                   have dj : decide (s < (J.length : Int)) = true := decide_eq_true a9
                   clear a9
                   obtain ⟨aQ, br⟩ : ∃ y_ : List (S36), y_ = (J.set (s : Int).toNat (⟨(rd_T36 I z).f0, (rd_T36 I z).f1⟩ : S36)) := ⟨_, rfl⟩
                   replace H : (impl_Node_106.l1 k2 aQ (wrap64 (s + 1)) D (wrap64 (z + 1))) = some r := by first | (rw [br]; exact H) | exact H
                   have bt := am br
                   clear br
                   have H' := am H
                   clear H
                   have ao : 0 ≤ (z : Int) := oda
                   have ap : z < (Z.length : Int) := oda
                   obtain ⟨ba, bu, cE, cF⟩ := at_T36 aN.out z ao ap
                   cases bu
                   replace ao := eq_true ao
                   replace ap := eq_true ap
                   have aq : 0 ≤ ((X) : Int) := oda
                   have ar : (X) < (Z.length : Int) := oda
                   obtain ⟨bv, bw, cG, cH⟩ := at_T36 aN.out (X) aq ar
                   obtain rfl : ba = bv := (by injection bw)
                   replace aq := eq_true aq
                   replace ar := eq_true ar
                   have bz : 0 ≤ (z : Int) := oda
                   have bA : z < (Z.length : Int) := oda
                   obtain ⟨cI, cJ, dk, dl⟩ := at_T36 aN.out z bz bA
                   obtain rfl : ba = cI := (by injection cJ)
                   replace bz := eq_true bz
                   replace bA := eq_true bA
                   have bB : 0 ≤ (s : Int) := oda
                   have bC : (s : Int) < ((J.length : Int) : Int) := oda
                   have aD := bO
                   have HMgo22 := am (show (P0_ L ∨ w.heap.size ≤ L) from (G.out.1 _ rfl))
                   (first | simp only [add_plain] at aE | skip)
                   (first | simp only [add_plain] at aG | skip)
                   (first | simp only [add_plain] at aH | skip)
                   (first | simp only [add_plain] at aI | skip)
                   obtain ⟨dm, cK, b0, bD, bE⟩ := Kd.R_elem G.out z36 (s : Int) bB bC
                   obtain rfl := k36_openM b0
                   have dp : wr.cell? ⟨L, (s : Int).toNat * 2, none⟩ = some (.int .i64 ((rd_T36 J s).f0)) := bD 0 _ rfl
                   have dq : wr.cell? ⟨L, (s : Int).toNat * 2 + 1, none⟩ = some (.int .i64 ((rd_T36 J s).f1)) := bD 1 _ rfl
                   have dr : wr.frozen? ⟨L, (s : Int).toNat * 2, none⟩ = false := bE 0
                   have dt : wr.frozen? ⟨L, (s : Int).toNat * 2 + 1, none⟩ = false := bE 1
                   clear cK bD bE b0
                   replace bB := eq_true bB
                   replace bC := eq_true bC
                   have HX23 := am (show Kd.R k36 36 wr w0.heap.size (fun k_ => (P0_ k_ ∨ w.heap.size ≤ k_)) (.slice (some ⟨L, 0, none⟩) J.length O) J from (rl G.out))
                   obtain ⟨bF, ad, ae, Y, aa⟩ := Kd.R_elem HX23.out z36 (s : Int) (oda) (by have h_ : (s : Int) < ((J.length : Int) : Int) := oda; first | exact h_ | (have e_ := (Kd.R_reads' G.out).1; omega) | simpa using h_)
                   obtain rfl := k36_openM ae
                   have ac := Kd.R_seg HX23.out (s : Int) (oda) (by have h_ : (s : Int) < ((J.length : Int) : Int) := oda; first | exact h_ | (have e_ := (Kd.R_reads' G.out).1; omega) | simpa using h_) (seg := [.int .i64 ((rd_T36 I z).f0), .int .i64 ((rd_T36 I z).f1)]) (j := 0) ad Y (show 2 ≤ 2 from by decide) (x' := (⟨(rd_T36 I z).f0, (rd_T36 I z).f1⟩ : S36)) (k36_mkM _ _ _ (⟨(rd_T36 I z).f0, (rd_T36 I z).f1⟩ : S36) ) (fun _ hk => hk)
                   have au := Y 0 _ rfl
                   (try simp only [show (k36).sz = 2 from rfl, Nat.mul_one, Nat.add_zero] at au)
                   have av := aa 0
                   (try simp only [show (k36).sz = 2 from rfl, Nat.mul_one, Nat.add_zero] at av)
                   have aw := Y 1 _ rfl
                   (try simp only [show (k36).sz = 2 from rfl, Nat.mul_one, Nat.add_zero] at aw)
                   have ax := aa 1
                   (try simp only [show (k36).sz = 2 from rfl, Nat.mul_one, Nat.add_zero] at ax)
                   clear ad Y aa ae
                   go_wp2_with (first | ((with_reducible refine gate_store (t := 36) (p := 51) rfl ?_); (try (rw [drewN_self wr]; generalize hq_ : World.drewN wr _ = wr; have ak := am (rAt hq_ G.out); have al := am (kAt hq_ HK.out); have an := am (bAt hq_ HB.out); clear hq_ G HK HB; have G := ak; have HK := al; have HB := an; clear ak al an; (try (have HX23 := am (show Kd.R k36 36 wr w0.heap.size (fun k_ => (P0_ k_ ∨ w.heap.size ≤ k_)) (.slice (some ⟨L, 0, none⟩) J.length O) J from (rl G.out)))); (try (obtain ⟨bF, ad, ae, Y, aa⟩ := Kd.R_elem HX23.out z36 (s : Int) (oda) (by have h_ : (s : Int) < ((J.length : Int) : Int) := oda; first | exact h_ | (have e_ := (Kd.R_reads' G.out).1; omega) | simpa using h_))); (try (obtain rfl := k36_openM ae)); (try (have ac := Kd.R_seg HX23.out (s : Int) (oda) (by have h_ : (s : Int) < ((J.length : Int) : Int) := oda; first | exact h_ | (have e_ := (Kd.R_reads' G.out).1; omega) | simpa using h_) (seg := [.int .i64 ((rd_T36 I z).f0), .int .i64 ((rd_T36 I z).f1)]) (j := 0) ad Y (show 2 ≤ 2 from by decide) (x' := (⟨(rd_T36 I z).f0, (rd_T36 I z).f1⟩ : S36)) (k36_mkM _ _ _ (⟨(rd_T36 I z).f0, (rd_T36 I z).f1⟩ : S36) ) (fun _ hk => hk))); (try (have au := Y 0 _ rfl)); (try (try simp only [show (k36).sz = 2 from rfl, Nat.mul_one, Nat.add_zero] at au)); (try (have av := aa 0)); (try (try simp only [show (k36).sz = 2 from rfl, Nat.mul_one, Nat.add_zero] at av)); (try (have aw := Y 1 _ rfl)); (try (try simp only [show (k36).sz = 2 from rfl, Nat.mul_one, Nat.add_zero] at aw)); (try (have ax := aa 1)); (try (try simp only [show (k36).sz = 2 from rfl, Nat.mul_one, Nat.add_zero] at ax)); (try (clear ad Y aa ae)))); refine store_event (t := 36) (p := 51) (v := ?vo_w24) (w1 := ((wr.setCell ⟨L, (s : Int).toNat * 2, none⟩ (.int .i64 ((rd_T36 I z).f0))).setCell ⟨L, (s : Int).toNat * 2 + 1, none⟩ (.int .i64 ((rd_T36 I z).f1)))) ?hg ?ho ?hn ?hr ?_; (case ho => rfl); (case hg => rfl); (case hn => rfl); (case hr => first | (go_simp; done) | (go_simp; rfl)); intro af hw; have hg : wr.grownBy af (some L) := (by rw [hw]; exact ac.2); have hp_ : Kd.R k36 36 af w0.heap.size (fun k_ => (P0_ k_ ∨ w.heap.size ≤ k_)) (.slice (some ⟨L, 0, none⟩) J.length O) aQ := (by rw [hw, bt.out]; exact ac.1); clear ac; replace HB := am ((by rw [hw]; exact below_set (below_set (HB.out) aD.out) aD.out : Below w0.heap.size w0 af)); replace HK := am (Kept.of_grown (S := (fun k_ => P0_ k_)) hg (ts HK.out) (fun k_ e_ => (G.out.1 k_ e_))); replace G := am hp_; clear hg hw hp_))
                   repeat (go_quiet (first | ((with_reducible refine gate_store (t := 36) (p := 51) rfl ?_); (try (rw [drewN_self wr]; generalize hq_ : World.drewN wr _ = wr; have ak := am (rAt hq_ G.out); have al := am (kAt hq_ HK.out); have an := am (bAt hq_ HB.out); clear hq_ G HK HB; have G := ak; have HK := al; have HB := an; clear ak al an; (try (have HX23 := am (show Kd.R k36 36 wr w0.heap.size (fun k_ => (P0_ k_ ∨ w.heap.size ≤ k_)) (.slice (some ⟨L, 0, none⟩) J.length O) J from (rl G.out)))); (try (obtain ⟨bF, ad, ae, Y, aa⟩ := Kd.R_elem HX23.out z36 (s : Int) (oda) (by have h_ : (s : Int) < ((J.length : Int) : Int) := oda; first | exact h_ | (have e_ := (Kd.R_reads' G.out).1; omega) | simpa using h_))); (try (obtain rfl := k36_openM ae)); (try (have ac := Kd.R_seg HX23.out (s : Int) (oda) (by have h_ : (s : Int) < ((J.length : Int) : Int) := oda; first | exact h_ | (have e_ := (Kd.R_reads' G.out).1; omega) | simpa using h_) (seg := [.int .i64 ((rd_T36 I z).f0), .int .i64 ((rd_T36 I z).f1)]) (j := 0) ad Y (show 2 ≤ 2 from by decide) (x' := (⟨(rd_T36 I z).f0, (rd_T36 I z).f1⟩ : S36)) (k36_mkM _ _ _ (⟨(rd_T36 I z).f0, (rd_T36 I z).f1⟩ : S36) ) (fun _ hk => hk))); (try (have au := Y 0 _ rfl)); (try (try simp only [show (k36).sz = 2 from rfl, Nat.mul_one, Nat.add_zero] at au)); (try (have av := aa 0)); (try (try simp only [show (k36).sz = 2 from rfl, Nat.mul_one, Nat.add_zero] at av)); (try (have aw := Y 1 _ rfl)); (try (try simp only [show (k36).sz = 2 from rfl, Nat.mul_one, Nat.add_zero] at aw)); (try (have ax := aa 1)); (try (try simp only [show (k36).sz = 2 from rfl, Nat.mul_one, Nat.add_zero] at ax)); (try (clear ad Y aa ae)))); refine store_event (t := 36) (p := 51) (v := ?vo_w24) (w1 := ((wr.setCell ⟨L, (s : Int).toNat * 2, none⟩ (.int .i64 ((rd_T36 I z).f0))).setCell ⟨L, (s : Int).toNat * 2 + 1, none⟩ (.int .i64 ((rd_T36 I z).f1)))) ?hg ?ho ?hn ?hr ?_; (case ho => rfl); (case hg => rfl); (case hn => rfl); (case hr => first | (go_simp; done) | (go_simp; rfl)); intro af hw; have hg : wr.grownBy af (some L) := (by rw [hw]; exact ac.2); have hp_ : Kd.R k36 36 af w0.heap.size (fun k_ => (P0_ k_ ∨ w.heap.size ≤ k_)) (.slice (some ⟨L, 0, none⟩) J.length O) aQ := (by rw [hw, bt.out]; exact ac.1); clear ac; replace HB := am ((by rw [hw]; exact below_set (below_set (HB.out) aD.out) aD.out : Below w0.heap.size w0 af)); replace HK := am (Kept.of_grown (S := (fun k_ => P0_ k_)) hg (ts HK.out) (fun k_ e_ => (G.out.1 k_ e_))); replace G := am hp_; clear hg hw hp_)); try go_wp2_with (first | ((with_reducible refine gate_store (t := 36) (p := 51) rfl ?_); (try (rw [drewN_self wr]; generalize hq_ : World.drewN wr _ = wr; have ak := am (rAt hq_ G.out); have al := am (kAt hq_ HK.out); have an := am (bAt hq_ HB.out); clear hq_ G HK HB; have G := ak; have HK := al; have HB := an; clear ak al an; (try (have HX23 := am (show Kd.R k36 36 wr w0.heap.size (fun k_ => (P0_ k_ ∨ w.heap.size ≤ k_)) (.slice (some ⟨L, 0, none⟩) J.length O) J from (rl G.out)))); (try (obtain ⟨bF, ad, ae, Y, aa⟩ := Kd.R_elem HX23.out z36 (s : Int) (oda) (by have h_ : (s : Int) < ((J.length : Int) : Int) := oda; first | exact h_ | (have e_ := (Kd.R_reads' G.out).1; omega) | simpa using h_))); (try (obtain rfl := k36_openM ae)); (try (have ac := Kd.R_seg HX23.out (s : Int) (oda) (by have h_ : (s : Int) < ((J.length : Int) : Int) := oda; first | exact h_ | (have e_ := (Kd.R_reads' G.out).1; omega) | simpa using h_) (seg := [.int .i64 ((rd_T36 I z).f0), .int .i64 ((rd_T36 I z).f1)]) (j := 0) ad Y (show 2 ≤ 2 from by decide) (x' := (⟨(rd_T36 I z).f0, (rd_T36 I z).f1⟩ : S36)) (k36_mkM _ _ _ (⟨(rd_T36 I z).f0, (rd_T36 I z).f1⟩ : S36) ) (fun _ hk => hk))); (try (have au := Y 0 _ rfl)); (try (try simp only [show (k36).sz = 2 from rfl, Nat.mul_one, Nat.add_zero] at au)); (try (have av := aa 0)); (try (try simp only [show (k36).sz = 2 from rfl, Nat.mul_one, Nat.add_zero] at av)); (try (have aw := Y 1 _ rfl)); (try (try simp only [show (k36).sz = 2 from rfl, Nat.mul_one, Nat.add_zero] at aw)); (try (have ax := aa 1)); (try (try simp only [show (k36).sz = 2 from rfl, Nat.mul_one, Nat.add_zero] at ax)); (try (clear ad Y aa ae)))); refine store_event (t := 36) (p := 51) (v := ?vo_w24) (w1 := ((wr.setCell ⟨L, (s : Int).toNat * 2, none⟩ (.int .i64 ((rd_T36 I z).f0))).setCell ⟨L, (s : Int).toNat * 2 + 1, none⟩ (.int .i64 ((rd_T36 I z).f1)))) ?hg ?ho ?hn ?hr ?_; (case ho => rfl); (case hg => rfl); (case hn => rfl); (case hr => first | (go_simp; done) | (go_simp; rfl)); intro af hw; have hg : wr.grownBy af (some L) := (by rw [hw]; exact ac.2); have hp_ : Kd.R k36 36 af w0.heap.size (fun k_ => (P0_ k_ ∨ w.heap.size ≤ k_)) (.slice (some ⟨L, 0, none⟩) J.length O) aQ := (by rw [hw, bt.out]; exact ac.1); clear ac; replace HB := am ((by rw [hw]; exact below_set (below_set (HB.out) aD.out) aD.out : Below w0.heap.size w0 af)); replace HK := am (Kept.of_grown (S := (fun k_ => P0_ k_)) hg (ts HK.out) (fun k_ e_ => (G.out.1 k_ e_))); replace G := am hp_; clear hg hw hp_)))
                   (try simp only [← hl0_2])
                   go_roundg k2
                   case measure => have := ay.out; have := a4.out; omega
                   case rel => exact ⟨(aQ), (wrap64 (s + 1)), (wrap64 (z + 1)), eqs, eqs, H', ⟨by have := ay.out; have := a4.out; omega⟩, ⟨by (try simp only [hl0_1]); (try simp only [hl0_2]); (with_reducible repeat (first | apply Kd.R_alloc | apply Kd.R_drewN | apply Kd.R_drew)); exact G.out⟩, ⟨ts HK.out⟩, ⟨bs HB.out⟩⟩
                  ·rw [if_neg a9] at H
                   exact absurd H (by simp)
                 ·rw [if_neg a8] at H
                  exact absurd H (by simp)
                ·rw [if_neg aC] at H
                 have cD : (!(((rd_T36 I z).f0) == ((rd_T36 I (X)).f0)) || (!(((rd_T36 I z).f1) == ((rd_T36 I (X)).f1)))) = false := by simpa using aC
                 clear aC
                 have H' := am H
                 clear H
                 have ao : 0 ≤ (z : Int) := oda
                 have ap : z < (Z.length : Int) := oda
                 obtain ⟨ba, bu, cE, cF⟩ := at_T36 aN.out z ao ap
                 cases bu
                 replace ao := eq_true ao
                 replace ap := eq_true ap
                 have aq : 0 ≤ ((X) : Int) := oda
                 have ar : (X) < (Z.length : Int) := oda
                 obtain ⟨bv, bw, cG, cH⟩ := at_T36 aN.out (X) aq ar
                 obtain rfl : ba = bv := (by injection bw)
                 replace aq := eq_true aq
                 replace ar := eq_true ar
                 go_wp2
                 repeat (go_quiet (fail); try go_wp2)
                 (try simp only [← hl0_2])
                 go_roundg k2
                 case measure => have := ay.out; have := a4.out; omega
                 case rel => exact ⟨(J), (s), (wrap64 (z + 1)), eqs, eqs, H', ⟨by have := ay.out; have := a4.out; omega⟩, ⟨by (try simp only [hl0_1]); (try simp only [hl0_2]); (with_reducible repeat (first | apply Kd.R_alloc | apply Kd.R_drewN | apply Kd.R_drew)); exact G.out⟩, ⟨ts HK.out⟩, ⟨bs HB.out⟩⟩
               ·rw [if_neg a7] at H
                exact absurd H (by simp)
              ·rw [if_neg a6] at H
               exact absurd H (by simp)
             ·rw [if_neg a5] at H
              exact absurd H (by simp)
            ·rw [if_neg aA] at H
             have cC : decide (z < (Z.length : Int)) = false := decide_eq_false aA
             clear aA
             by_cases aR : 0 ≤ s
             ·rw [if_pos aR] at H
              have du := eq_true aR
              have dv : decide (0 ≤ s) = true := decide_eq_true aR
              clear aR
              by_cases aT : s ≤ (J.length : Int)
              ·rw [if_pos aT] at H
               have dw := eq_true aT
               have dx : decide (s ≤ (J.length : Int)) = true := decide_eq_true aT
               clear aT
               obtain ⟨aU, bG⟩ : ∃ y_ : List (S36), y_ = (J.drop (s : Int).toNat) := ⟨_, rfl⟩
               replace H : (some (J.take (s : Int).toNat)) = some r := by first | (rw [bG]; exact H) | exact H
               have b2 := am bG
               clear bG
               have dy := eq_true (oda : s ≤ (J.length : Int))
               obtain ⟨b3, bH⟩ : ∃ y_ : List (S36), y_ = (J.take (s : Int).toNat) := ⟨_, rfl⟩
               replace H : (some b3) = some r := by first | (rw [bH]; exact H) | exact H
               have b4 := am bH
               clear bH
               obtain rfl := Option.some.inj H
               have bI : (s : Int) ≤ ((J.length : Int) : Int) := oda
               obtain ⟨dz, b5, _, b6, _⟩ := info_parts info36
               have bJ : J.length ≤ O := (Kd.R_reads' G.out).2.1
               have b7 : Kd.C k36 _ (some ⟨L, 0, none⟩) J.length J := (Kd.R_reads' G.out).2.2
               have cL : (0 : Int) ≤ (s : Int) := oda
               have cM := cut_from (P := Try.prog) 29 36 .i64 Try.underlying29 b5 2 b6 (some ⟨L, 0, none⟩) J.length O s cL bI
               have aV := Kd.C_drop (m := (s : Int).toNat) (c := O) b7 (by omega) bJ
               obtain ⟨cN, bc⟩ : ∃ A1, A1 = (if O = (s : Int).toNat then (some ⟨L, 0, none⟩) else ((some ⟨L, 0, none⟩) : Option Addr).map (·.add ((s : Int).toNat * 2))) := ⟨_, rfl⟩
               obtain ⟨b8, bK⟩ : ∃ c1, c1 = O - (s : Int).toNat := ⟨_, rfl⟩
               have be : aU.length = J.length - (s : Int).toNat := (by rw [b2.out, List.length_drop] <;> omega)
               rw [show (J).drop (s : Int).toNat = aU from b2.out.symm] at aV
               replace aV : Kd.C k36 _ cN aU.length aU := (by rw [bc]; exact aV)
               rw [← be, ← bc, ← bK] at cM
               have dA := am aV
               have dB := am (show aU.length ≤ b8 from by rw [be, bK]; exact Nat.sub_le_sub_right bJ _)
               clear aV b7 bJ b5 b6 bK
               have cO := am be
               have cP := am bc
               clear be bc
               have b9 := am (show (s : Int).toNat ≤ J.length from by omega)
               replace bI := eq_true bI
               have bL : (s : Int) ≤ ((J.length : Int) : Int) := oda
               obtain ⟨w9, hclr, hg9, hR9⟩ := clear_N (c2 := b8) G.out b9.out cP.out cO.out
               have HB9 := am (show Below w0.heap.size w0 w9 from HB.out.trans ⟨hg9.os, hg9.tape, hg9.output, hg9.size, fun k_ hk_ => hg9.block k_ (Nat.lt_of_lt_of_le hk_ HB.out.size) (fun e_ => by injection e_ with e_; have := bO.out; omega)⟩)
               have cQ := am (Kept.of_grown (S := (fun k_ => P0_ k_)) hg9 (ts HK.out) (fun k_ e_ => (G.out.1 k_ e_)))
               obtain ⟨dC, ce, _, cR, _⟩ := info_parts info36
               have cS := cut_to (P := Try.prog) 29 36 .i64 Try.underlying29 ce (some ⟨L, 0, none⟩) J.length O s (oda) bL (Kd.R_reads' G.out).2.1
               have cf : b3.length = (s : Int).toNat := (by rw [b4.out, List.length_take]; have := b9.out; omega)
               rw [← b4.out] at hR9
               rw [← cf] at hR9 cS
               clear cf ce cR G hg9
               have cT := am hR9
               clear hR9
               replace bL := eq_true bL
               go_wp2
               repeat (go_quiet (fail); try go_wp2)
               go_ret
               exact ⟨_, eqr, cT.out, HB9.out, cQ.out⟩
              ·rw [if_neg aT] at H
               exact absurd H (by simp)
             ·rw [if_neg aR] at H
              exact absurd H (by simp)
         ·rw [if_neg az] at H
          exact absurd H (by simp)
        ·rw [if_neg ab] at H
         have bQ : (((rd_T36 y D).f0) == ((rd_T36 y (M)).f0) && (((rd_T36 y D).f1) == ((rd_T36 y (M)).f1))) = false := by simpa using ab
         (try (have bR : decide (((rd_T36 y D).f0) = ((rd_T36 y (M)).f0) && (((rd_T36 y D).f1) == ((rd_T36 y (M)).f1))) = false := by simpa using ab))
         (try (have bS : (((rd_T36 y D).f0) == ((rd_T36 y (M)).f0) && (((rd_T36 y D).f1) == ((rd_T36 y (M)).f1))) = false := by simpa using ab))
         (try (have dD : ¬ (((rd_T36 y D).f0) = ((rd_T36 y (M)).f0) && (((rd_T36 y D).f1) == ((rd_T36 y (M)).f1))) := by simpa using ab))
         clear ab
         have H' := am H
         clear H
         have ag : 0 ≤ (D : Int) := oda
         have ah : D < (y.length : Int) := oda
         obtain ⟨cu, bk, aE, aG⟩ := at_T36 (Kd.R_reads' G.out).2.2 D ag ah
         cases bk
         simp only [add_plain] at aE aG
         replace ag := eq_true ag
         replace ah := eq_true ah
         have ai : 0 ≤ ((M) : Int) := oda
         have aj : (M) < (y.length : Int) := oda
         obtain ⟨cv, bl, aH, aI⟩ := at_T36 (Kd.R_reads' G.out).2.2 (M) ai aj
         cases bl
         simp only [add_plain] at aH aI
         replace ai := eq_true ai
         replace aj := eq_true aj
         go_wp2
         repeat (go_quiet (fail); try go_wp2)
         (try simp only [← hl0_1])
         go_roundg k1
         case measure => have := ay.out; omega
         case rel => exact ⟨(y), (wrap64 (D + 1)), eqs, H', ⟨by have := ay.out; omega⟩, ⟨by (try simp only [hl0_1]); (with_reducible repeat (first | apply Kd.R_alloc | apply Kd.R_drewN | apply Kd.R_drew)); exact G.out⟩, ⟨ts HK.out⟩, ⟨bs HB.out⟩⟩
       ·rw [if_neg c9] at H
        exact absurd H (by simp)
      ·rw [if_neg c8] at H
       exact absurd H (by simp)
     ·rw [if_neg c6] at H
      exact absurd H (by simp)
    ·rw [if_neg c5] at H
     have bP : decide (D < (y.length : Int)) = false := decide_eq_false c5
     clear c5
     obtain rfl := Option.some.inj H
     go_wp2
     repeat (go_quiet (fail); try go_wp2)
     go_ret
     exact ⟨_, eqr, by (with_reducible repeat (first | apply Kd.R_alloc | apply Kd.R_drewN | apply Kd.R_drew)); exact G.out, bs HB.out, ts HK.out⟩


/-! ### impl_GraphNear: function 55 -/
def impl_GraphNear.l0 : Nat → List (S36) → List (S56) → Int → Int → Int → Int → Option ((List (S36)))
 | 0, _, _, _, _, _, _ => none
 | k + 1, z, y, I, s, D, G => if s < I then (if 0 ≤ s then (if s < (y.length : Int) then (if (D == ((rd_T56 y s).f1.f0) && (G == ((rd_T56 y s).f1.f1))) = true then (if z.length < 8796093022208 then (impl_GraphNear.l0 k (z ++ [(⟨(rd_T56 y s).f2.f0, (rd_T56 y s).f2.f1⟩ : S36)]) y I (wrap64 (s + 1)) D G) else (none)) else (if (D == ((rd_T56 y s).f2.f0) && (G == ((rd_T56 y s).f2.f1))) = true then (if z.length < 8796093022208 then (impl_GraphNear.l0 k (z ++ [(⟨(rd_T56 y s).f1.f0, (rd_T56 y s).f1.f1⟩ : S36)]) y I (wrap64 (s + 1)) D G) else (none)) else (impl_GraphNear.l0 k z y I (wrap64 (s + 1)) D G))) else (none)) else (none)) else ((impl_Node_104.f z).bind fun J => ((impl_Node_106.f k J).bind fun L => (some L)))
def impl_GraphNear.f (k : Nat) (y : List (S36)) (s : List (S56)) (z : Int) (D : Int) : Option ((List (S36))) := (impl_GraphOk.f k y s).bind fun G => (if G = true then (impl_GraphNear.l0 k ([] : List (S36)) s (s.length : Int) 0 z D) else (some ([] : List (S36))))
theorem impl_GraphNear.calls (k : Nat) (ah : Option Addr) (ai : Nat) (T : List (S36)) (aj : Option Addr) (ak : Nat) (s : List (S56)) (I : Int) (J : Int) (r : List (S36)) (w : World) (aQ : Kd.C k36 w ah T.length T) (aR : T.length ≤ ai) (aT : Kd.C k56 w aj s.length s) (aU : s.length ≤ ak) (h : impl_GraphNear.f k T s I J = some r) :
  Calls Try.prog 55 #[.agg #[.slice ah T.length ai, .slice aj s.length ak], .agg #[.int .i64 I, .int .i64 J]] w fun e w' => ∃ aV : Value, e = .returned (aV) ∧ Kd.R k36 36 w' w.heap.size (fun _ => True) aV r ∧ Below w.heap.size w w' := by
 have hu34 := Try.underlying34
 have hu36 := Try.underlying36
 have hu56 := Try.underlying56
 have aW := am aQ
 have aX := am aR
 clear aQ aR
 have aw := am aT
 have aY := am aU
 clear aT aU
 have HB := am (Below.refl w.heap.size w)
 have H := h; unfold impl_GraphNear.f at H
 clear h
 replace H := Option.bind_eq_some_iff.mp H
 obtain ⟨bk, aZ, H⟩ := H
 try dsimp -simprocs only at H
 have A3 := am aZ
 clear aZ
 by_cases c4 : bk = true
 ·subst c4
  replace H : (impl_GraphNear.l0 k ([] : List (S36)) s (s.length : Int) 0 I J) = some r := by rw [if_pos rfl] at H; exact H
  have H' := am H
  clear H
  go_enter Try.func55, Try.ntmps55
  go_wp2_with (first | ((with_reducible refine gd 2 rfl ?_); refine bx 2 (cs := #[.slice ah T.length ai, .slice aj s.length ak]) (t := 34) ?_; intro a4 hg w5 hbox hb; have D := am hbox; have bl := gwb HB hg; replace HB := hs HB hb; clear hb hbox hg) | ((with_reducible refine gd 3 rfl ?_); refine bx 3 (cs := #[.int .i64 I, .int .i64 J]) (t := 36) ?_; intro X hg w6 hbox hb; have G := am hbox; have bm := gwb HB hg; replace HB := hs HB hb; have ao := nq D hg; have ap := nq' D hg; replace D := bb D hb rfl; clear hb hbox hg; have bS := ao.out; have bT := ap.out; obtain ⟨bn, bo⟩ := bc2 (w := w6) D.out; have br := blk_frozen D.out) | ((with_reducible refine gc 34 rfl ?_); refine gl 9 Try.func34 #[.agg #[.slice ah T.length ai, .slice aj s.length ak]] ?_; (with_reducible refine (impl_GraphOk.calls k _ _ T _ _ s true _ ?al ?an ?aJ ?aK A3.out).mono ?_); (case al => exact Kd.C_below aW.out (bs HB.out)); (case an => exact aX.out); (case aJ => exact Kd.C_below aw.out (bs HB.out)); (case aK => exact aY.out); rintro e w9 ⟨rfl, hb⟩; refine ⟨_, rfl, ?_⟩; replace D := bb D hb rfl; replace G := bb G hb rfl; replace HB := hs HB hb; (try clear hb); obtain ⟨bt, bu⟩ := bc2 (w := w9) D.out; have bv := blk_frozen D.out))
  go_loopg [5, 14] k (fun kq v5 bw w' => ∃ (M : List (S36)) (y : Int), bw = .int .i64 y ∧ Aside0 (impl_GraphNear.l0 kq M s (s.length : Int) y I J = some r) ∧ Aside0 (kq ≤ k) ∧ Aside0 (Kd.R k36 36 w' w.heap.size (fun k_ => k_ ≠ X) v5 M) ∧ Aside0 (w'.heap[a4]? = some (.cells #[(.slice ah T.length ai), (.slice aj s.length ak)] 34 (0, 0))) ∧ Aside0 (w'.heap[X]? = some (.cells #[.int .i64 I, .int .i64 J] 36 (0, 0))) ∧ Aside0 (Below w.heap.size w w'))
  case atStart => exact ⟨(([] : List (S36))), (0), eqs, H', ⟨Nat.le_refl _⟩, ⟨by first | exact Kd.R_nil _ _ _ _ _ | exact Kd.N_nil _ _ _ _ _ | exact Kd.V_nil _ _ _ _ _ | exact Kd.Q_nil _ _ _ _ _ | exact Kd.S_nil _ _ _ _ _⟩, ⟨bf D.out⟩, ⟨bf G.out⟩, ⟨bs HB.out⟩⟩
  case round =>
   clear H'
   try clear p2
   try clear c3
   try clear c4
   try clear c5
   try clear c7
   try clear bt bu
   try clear bn bo
   try clear bv
   try clear br
   obtain ⟨M, y, rfl, HA, aq, L, D, G, HB⟩ := hrel
   cases gk with
   | zero => exact absurd HA.out (by simp [impl_GraphNear.l0])
   | succ k1 =>
    have H := HA.out
    clear HA
    simp only [impl_GraphNear.l0] at H
    by_cases ar : y < (s.length : Int)
    ·rw [if_pos ar] at H
     have bz : decide (y < (s.length : Int)) = true := decide_eq_true ar
     clear ar
     by_cases aD : 0 ≤ y
     ·rw [if_pos aD] at H
      have bU : decide (0 ≤ y) = true := decide_eq_true aD
      clear aD
      by_cases aE : y < (s.length : Int)
      ·rw [if_pos aE] at H
       have bV : decide (y < (s.length : Int)) = true := decide_eq_true aE
       clear aE
       by_cases Y : (I == ((rd_T56 s y).f1.f0) && (J == ((rd_T56 s y).f1.f1))) = true
       ·rw [if_pos Y] at H
        have bA : (I == ((rd_T56 s y).f1.f0) && (J == ((rd_T56 s y).f1.f1))) = true := Y
        (try (have bB : decide (I = ((rd_T56 s y).f1.f0) && (J == ((rd_T56 s y).f1.f1))) = true := by simpa using Y))
        (try (have bC : (I == ((rd_T56 s y).f1.f0) && (J == ((rd_T56 s y).f1.f1))) = true := by simpa using Y))
        clear Y
        by_cases aG : M.length < 8796093022208
        ·rw [if_pos aG] at H
         have bD := am aG
         clear aG
         obtain ⟨a5, aM⟩ : ∃ y_ : List (S36), y_ = (M ++ [(⟨(rd_T56 s y).f2.f0, (rd_T56 s y).f2.f1⟩ : S36)]) := ⟨_, rfl⟩
         replace H : (impl_GraphNear.l0 k1 a5 s (s.length : Int) (wrap64 (y + 1)) I J) = some r := by first | (rw [aM]; exact H) | exact H
         have bE := am aM
         clear aM
         have H' := am H
         clear H
         have Z : 0 ≤ (y : Int) := oda
         have aa : y < (s.length : Int) := oda
         obtain ⟨a6, ax, ac, ad, ae, af, ag⟩ := at_T56 aw.out y Z aa
         cases ax
         replace ac := cb HB ac
         replace ad := cb HB ad
         replace ae := cb HB ae
         replace af := cb HB af
         replace ag := cb HB ag
         replace Z := eq_true Z
         replace aa := eq_true aa
         go_wp2_with (first | ((with_reducible refine gd 7 rfl ?_); refine bx 7 (cs := #[.int .i64 0, .int .i64 0, .int .i64 0, .int .i64 0, .int .i64 0]) (t := 56) ?_; intro aH hg a7 hbox hb; replace L := rb L hb; have O := am hbox; have a8 := gwb HB hg; replace HB := hs HB hb; have ay := nq D hg; have az := nq' D hg; replace D := bb D hb rfl; have aA := nq G hg; have aC := nq' G hg; replace G := bb G hb rfl; clear hb hbox hg; have bW := az.out; have bX := ay.out; have bY := aC.out; have bZ := aA.out; obtain ⟨b0, b2, b3, b4, b5⟩ := bc5 (w := a7) O.out; have b6 := blk_frozen O.out; have b7 := ap.out; have b8 := ao.out; obtain ⟨b9, ce⟩ := bc2 (w := a7) G.out; have cf := blk_frozen G.out) | ((with_reducible refine gate_builtin (b := .append) (xs := #[.tmp 23, .tmp 26]) rfl ?_); at_builtin; refine Kd.R_append k36 (w0 := w) w.heap.size rfl (.tmp 23) (.tmp 26) 29 36 (.agg #[(.int .i64 0), (.int .i64 0)]) 16 rfl Try.underlying29 info36 rfl (by decide) (by omega) u5 M (⟨(rd_T56 s y).f2.f0, (rd_T56 s y).f2.f1⟩ : S36) [.int .i64 ((rd_T56 s y).f2.f0), .int .i64 ((rd_T56 s y).f2.f1)] (fun k_ => k_ ≠ X) (fun _ => False) rfl (by first | (go_simp; done) | (go_simp; rfl)) ?aP (fun _ hk => hk.elim) ?aF ?aO ?aB ?aS ?aL ?_; (case aP => exact k36_mkM _ _ _ (⟨(rd_T56 s y).f2.f0, (rd_T56 s y).f2.f1⟩ : S36)); (case aB => exact (bs HB.out)); (case aF => exact (fun k_ hk => Kd.freshB (g := X) (o := .cells #[.int .i64 I, .int .i64 J] 36 (0, 0)) (bf G.out) k_ hk)); (case aO => exact (Kd.R_mono (rt L.out O.out (by decide)) (fun _ hk => hk))); (case aS => exact (below_size (bs HB.out))); (case aL => have := bD.out; omega); intro cg ch ho hb hg hat; rw [← bE.out] at ho; replace D := gr D L hg; replace G := am (blk_grown (g := X) (o := .cells #[.int .i64 I, .int .i64 J] 36 (0, 0)) (bf G.out) hg (Kd.R_away L.out (fun _ hk => hk))); replace O := am (blk_grown (g := aH) (o := .cells #[.int .i64 ((rd_T56 s y).f0), .int .i64 ((rd_T56 s y).f1.f0), .int .i64 ((rd_T56 s y).f1.f1), .int .i64 ((rd_T56 s y).f2.f0), .int .i64 ((rd_T56 s y).f2.f1)] 56 (0, 0)) (bp O.out rfl) hg (Kd.R_ne L.out O.out (by decide))); replace HB := am hb; have bF := am ho; clear L; clear ho hb hg hat))
         go_roundg k1
         case measure => have := aq.out; omega
         case rel => exact ⟨(a5), (wrap64 (y + 1)), eqs, H', ⟨by have := aq.out; omega⟩, ⟨rl bF.out⟩, ⟨bf D.out⟩, ⟨bf G.out⟩, ⟨bs HB.out⟩⟩
        ·rw [if_neg aG] at H
         exact absurd H (by simp)
       ·rw [if_neg Y] at H
        have bA : (I == ((rd_T56 s y).f1.f0) && (J == ((rd_T56 s y).f1.f1))) = false := by simpa using Y
        (try (have bB : decide (I = ((rd_T56 s y).f1.f0) && (J == ((rd_T56 s y).f1.f1))) = false := by simpa using Y))
        (try (have bC : (I == ((rd_T56 s y).f1.f0) && (J == ((rd_T56 s y).f1.f1))) = false := by simpa using Y))
        (try (have ci : ¬ (I = ((rd_T56 s y).f1.f0) && (J == ((rd_T56 s y).f1.f1))) := by simpa using Y))
        clear Y
        by_cases ab : (I == ((rd_T56 s y).f2.f0) && (J == ((rd_T56 s y).f2.f1))) = true
        ·rw [if_pos ab] at H
         have bG : (I == ((rd_T56 s y).f2.f0) && (J == ((rd_T56 s y).f2.f1))) = true := ab
         (try (have bH : decide (I = ((rd_T56 s y).f2.f0) && (J == ((rd_T56 s y).f2.f1))) = true := by simpa using ab))
         (try (have bI : (I == ((rd_T56 s y).f2.f0) && (J == ((rd_T56 s y).f2.f1))) = true := by simpa using ab))
         clear ab
         by_cases aI : M.length < 8796093022208
         ·rw [if_pos aI] at H
          have bJ := am aI
          clear aI
          obtain ⟨a9, aN⟩ : ∃ y_ : List (S36), y_ = (M ++ [(⟨(rd_T56 s y).f1.f0, (rd_T56 s y).f1.f1⟩ : S36)]) := ⟨_, rfl⟩
          replace H : (impl_GraphNear.l0 k1 a9 s (s.length : Int) (wrap64 (y + 1)) I J) = some r := by first | (rw [aN]; exact H) | exact H
          have bK := am aN
          clear aN
          have H' := am H
          clear H
          have Z : 0 ≤ (y : Int) := oda
          have aa : y < (s.length : Int) := oda
          obtain ⟨a6, ax, ac, ad, ae, af, ag⟩ := at_T56 aw.out y Z aa
          cases ax
          replace ac := cb HB ac
          replace ad := cb HB ad
          replace ae := cb HB ae
          replace af := cb HB af
          replace ag := cb HB ag
          replace Z := eq_true Z
          replace aa := eq_true aa
          go_wp2_with (first | ((with_reducible refine gd 7 rfl ?_); refine bx 7 (cs := #[.int .i64 0, .int .i64 0, .int .i64 0, .int .i64 0, .int .i64 0]) (t := 56) ?_; intro aH hg ba hbox hb; replace L := rb L hb; have O := am hbox; have a8 := gwb HB hg; replace HB := hs HB hb; have ay := nq D hg; have az := nq' D hg; replace D := bb D hb rfl; have aA := nq G hg; have aC := nq' G hg; replace G := bb G hb rfl; clear hb hbox hg; have cj := az.out; have ck := ay.out; have cl := aC.out; have cm := aA.out; obtain ⟨cn, co, cp, ct, cu⟩ := bc5 (w := ba) O.out; have cv := blk_frozen O.out; have cy := ap.out; have cz := ao.out; obtain ⟨cA, cB⟩ := bc2 (w := ba) G.out; have cC := blk_frozen G.out) | ((with_reducible refine gate_builtin (b := .append) (xs := #[.tmp 32, .tmp 35]) rfl ?_); at_builtin; refine Kd.R_append k36 (w0 := w) w.heap.size rfl (.tmp 32) (.tmp 35) 29 36 (.agg #[(.int .i64 0), (.int .i64 0)]) 16 rfl Try.underlying29 info36 rfl (by decide) (by omega) u5 M (⟨(rd_T56 s y).f1.f0, (rd_T56 s y).f1.f1⟩ : S36) [.int .i64 ((rd_T56 s y).f1.f0), .int .i64 ((rd_T56 s y).f1.f1)] (fun k_ => k_ ≠ X) (fun _ => False) rfl (by first | (go_simp; done) | (go_simp; rfl)) ?aP (fun _ hk => hk.elim) ?aF ?aO ?aB ?aS ?aL ?_; (case aP => exact k36_mkM _ _ _ (⟨(rd_T56 s y).f1.f0, (rd_T56 s y).f1.f1⟩ : S36)); (case aB => exact (bs HB.out)); (case aF => exact (fun k_ hk => Kd.freshB (g := X) (o := .cells #[.int .i64 I, .int .i64 J] 36 (0, 0)) (bf G.out) k_ hk)); (case aO => exact (Kd.R_mono (rt L.out O.out (by decide)) (fun _ hk => hk))); (case aS => exact (below_size (bs HB.out))); (case aL => have := bJ.out; omega); intro cD cE ho hb hg hat; rw [← bK.out] at ho; replace D := gr D L hg; replace G := am (blk_grown (g := X) (o := .cells #[.int .i64 I, .int .i64 J] 36 (0, 0)) (bf G.out) hg (Kd.R_away L.out (fun _ hk => hk))); replace O := am (blk_grown (g := aH) (o := .cells #[.int .i64 ((rd_T56 s y).f0), .int .i64 ((rd_T56 s y).f1.f0), .int .i64 ((rd_T56 s y).f1.f1), .int .i64 ((rd_T56 s y).f2.f0), .int .i64 ((rd_T56 s y).f2.f1)] 56 (0, 0)) (bp O.out rfl) hg (Kd.R_ne L.out O.out (by decide))); replace HB := am hb; have bL := am ho; clear L; clear ho hb hg hat))
          go_roundg k1
          case measure => have := aq.out; omega
          case rel => exact ⟨(a9), (wrap64 (y + 1)), eqs, H', ⟨by have := aq.out; omega⟩, ⟨rl bL.out⟩, ⟨bf D.out⟩, ⟨bf G.out⟩, ⟨bs HB.out⟩⟩
         ·rw [if_neg aI] at H
          exact absurd H (by simp)
        ·rw [if_neg ab] at H
         have bG : (I == ((rd_T56 s y).f2.f0) && (J == ((rd_T56 s y).f2.f1))) = false := by simpa using ab
         (try (have bH : decide (I = ((rd_T56 s y).f2.f0) && (J == ((rd_T56 s y).f2.f1))) = false := by simpa using ab))
         (try (have bI : (I == ((rd_T56 s y).f2.f0) && (J == ((rd_T56 s y).f2.f1))) = false := by simpa using ab))
         (try (have cF : ¬ (I = ((rd_T56 s y).f2.f0) && (J == ((rd_T56 s y).f2.f1))) := by simpa using ab))
         clear ab
         have H' := am H
         clear H
         have Z : 0 ≤ (y : Int) := oda
         have aa : y < (s.length : Int) := oda
         obtain ⟨a6, ax, ac, ad, ae, af, ag⟩ := at_T56 aw.out y Z aa
         cases ax
         replace ac := cb HB ac
         replace ad := cb HB ad
         replace ae := cb HB ae
         replace af := cb HB af
         replace ag := cb HB ag
         replace Z := eq_true Z
         replace aa := eq_true aa
         go_wp2_with (first | ((with_reducible refine gd 7 rfl ?_); refine bx 7 (cs := #[.int .i64 0, .int .i64 0, .int .i64 0, .int .i64 0, .int .i64 0]) (t := 56) ?_; intro aH hg bc hbox hb; replace L := rb L hb; have O := am hbox; have a8 := gwb HB hg; replace HB := hs HB hb; have ay := nq D hg; have az := nq' D hg; replace D := bb D hb rfl; have aA := nq G hg; have aC := nq' G hg; replace G := bb G hb rfl; clear hb hbox hg; have cG := az.out; have cH := ay.out; have cI := aC.out; have cJ := aA.out; obtain ⟨cK, cL, cM, cN, cO⟩ := bc5 (w := bc) O.out; have cP := blk_frozen O.out; have cQ := ap.out; have cR := ao.out; obtain ⟨cS, cT⟩ := bc2 (w := bc) G.out; have cU := blk_frozen G.out))
         go_roundg k1
         case measure => have := aq.out; omega
         case rel => exact ⟨(M), (wrap64 (y + 1)), eqs, H', ⟨by have := aq.out; omega⟩, ⟨Kd.R_mono (rt L.out O.out (by decide)) (fun _ hk => hk)⟩, ⟨bf D.out⟩, ⟨bf G.out⟩, ⟨bs HB.out⟩⟩
      ·rw [if_neg aE] at H
       exact absurd H (by simp)
     ·rw [if_neg aD] at H
      exact absurd H (by simp)
    ·rw [if_neg ar] at H
     have bz : decide (y < (s.length : Int)) = false := decide_eq_false ar
     clear ar
     replace H := Option.bind_eq_some_iff.mp H
     obtain ⟨be, bg, H⟩ := H
     try dsimp -simprocs only at H
     have bM := am bg
     clear bg
     replace H := Option.bind_eq_some_iff.mp H
     obtain ⟨bN, bh, H⟩ := H
     try dsimp -simprocs only at H
     have bO := am bh
     clear bh
     obtain rfl := Option.some.inj H
     obtain ⟨au, av, bP⟩ := Kd.R_slice L.out
     subst bP
     go_wp2_with (first | ((with_reducible refine gc 104 rfl ?_); refine gl 39 Try.func104 #[.slice au M.length av, .func (.func 105) #[] #[]] ?_; (with_reducible refine (impl_Node_104.calls (fun k_ => some k_ = (.slice au M.length av : Value).ownBlock) (.slice au M.length av) M be w _ ?al ?an bM.out).mono ?_); (case al => exact bs HB.out); (case an => exact Kd.R_tight rfl L.out); rintro e cV ⟨rfl, bi, hb, hkp⟩; refine ⟨_, rfl, ?_⟩; replace D := am (blk_kept (bf D.out) hkp (fun hs_ => (fun e_ => (Kd.R_ne L.out D.out (by decide)) e_) hs_)); replace G := am (blk_kept (bf G.out) hkp (fun hs_ => (fun e_ => (Kd.R_away L.out (fun _ hk => hk)) e_) hs_)); replace L := am (Kd.R_reok rfl bi (fun k_ e_ => L.out.1 k_ e_)); replace HB := am hb; (try clear hb hkp); (try clear bi)) | ((with_reducible refine gc 106 rfl ?_); refine gl 41 Try.func106 #[.slice au M.length av] ?_; (with_reducible refine (impl_Node_106.calls k1 (fun k_ => some k_ = (.slice au M.length av : Value).ownBlock) (.slice au M.length av) be bN w _ ?al ?an bO.out).mono ?_); (case al => exact bs HB.out); (case an => exact Kd.R_tight rfl L.out); rintro e cW ⟨cX, rfl, bj, hb, hkp⟩; refine ⟨_, rfl, ?_⟩; replace D := am (blk_kept (bf D.out) hkp (fun hs_ => (fun e_ => (Kd.R_ne L.out D.out (by decide)) e_) hs_)); have bQ := am (Kd.R_mono (ok' := fun k_ => k_ ≠ X) bj (fun k_ hk_ => Or.elim hk_ (fun hs_ => fun e_ => (Kd.R_away L.out (fun _ hk => hk)) (by rw [← e_]; exact hs_)) (fun hn_ => (Kd.freshB (g := X) (o := .cells #[.int .i64 I, .int .i64 J] 36 (0, 0)) (bf G.out) k_ hn_)))); replace G := am (blk_kept (bf G.out) hkp (fun hs_ => (fun e_ => (Kd.R_away L.out (fun _ hk => hk)) e_) hs_)); replace HB := am hb; clear L; (try clear bj hb hkp)))
     go_ret
     exact ⟨_, eqr, by (with_reducible repeat (first | apply Kd.R_alloc | apply Kd.R_drewN | apply Kd.R_drew)); exact Kd.R_mono bQ.out (fun _ hk => trivial), bs HB.out⟩
 ·replace c4 := Bool.eq_false_iff.mpr c4
  subst c4
  have H1 : (some ([] : List (S36))) = some r := by rw [if_neg (show ¬ (false = true) by decide)] at H; exact H
  clear H
  have H := H1
  clear H1
  obtain rfl := Option.some.inj H
  go_enter Try.func55, Try.ntmps55
  go_wp2_with (first | ((with_reducible refine gd 2 rfl ?_); refine bx 2 (cs := #[.slice ah T.length ai, .slice aj s.length ak]) (t := 34) ?_; intro a4 hg cY hbox hb; have D := am hbox; have bl := gwb HB hg; replace HB := hs HB hb; clear hb hbox hg) | ((with_reducible refine gd 3 rfl ?_); refine bx 3 (cs := #[.int .i64 I, .int .i64 J]) (t := 36) ?_; intro X hg bR hbox hb; have G := am hbox; have bm := gwb HB hg; replace HB := hs HB hb; have ao := nq D hg; have ap := nq' D hg; replace D := bb D hb rfl; clear hb hbox hg; have cZ := ao.out; have c0 := ap.out; obtain ⟨da, db⟩ := bc2 (w := bR) D.out; have dc := blk_frozen D.out) | ((with_reducible refine gc 34 rfl ?_); refine gl 9 Try.func34 #[.agg #[.slice ah T.length ai, .slice aj s.length ak]] ?_; (with_reducible refine (impl_GraphOk.calls k _ _ T _ _ s false _ ?al ?an ?aJ ?aK A3.out).mono ?_); (case al => exact Kd.C_below aW.out (bs HB.out)); (case an => exact aX.out); (case aJ => exact Kd.C_below aw.out (bs HB.out)); (case aK => exact aY.out); rintro e dd ⟨rfl, hb⟩; refine ⟨_, rfl, ?_⟩; replace D := bb D hb rfl; replace G := bb G hb rfl; replace HB := hs HB hb; (try clear hb)))
  go_ret
  exact ⟨_, eqr, by first | exact Kd.R_nil _ _ _ _ _ | exact Kd.N_nil _ _ _ _ _ | exact Kd.V_nil _ _ _ _ _ | exact Kd.Q_nil _ _ _ _ _ | exact Kd.S_nil _ _ _ _ _, bs HB.out⟩

/-! ### impl_nodePlace: function 67 -/
def impl_nodePlace.f (k : Nat) (z : List (S36)) (D : List (S56)) (s : Int) (y : Int) : Option Int := if nOk s y = true then ((impl_bsf.f k z s y).bind fun b => if b.2 = true then some b.1 else some (-1)) else some (-1)
set_option maxHeartbeats 8000000 in
set_option maxRecDepth 100000 in
theorem impl_nodePlace.calls (k : Nat) (M : Option Addr) (O : Nat) (D : List (S36)) (T : Option Addr) (X : Nat) (J : List (S56)) (y : Int) (z : Int) (r : Int) (w : World) (aa : Kd.C k36 w M D.length D) (ab : D.length ≤ O) (ac : Kd.C k56 w T J.length J) (ad : J.length ≤ X) (h : impl_nodePlace.f k D J y z = some r) :
    Calls Try.prog 67 #[.agg #[.slice M D.length O, .slice T J.length X], .agg #[.int .i64 y, .int .i64 z]] w fun e w' => e = .returned (.int .i64 r) ∧ Below w.heap.size w w' := by
  have hu34 := Try.underlying34
  have hu36 := Try.underlying36
  have ae := am aa
  have af := am ab
  clear aa ab ac ad
  have HB := am (Below.refl w.heap.size w)
  have A1 := am (iN y z)
  unfold impl_nodePlace.f at h
  generalize nOk y z = b1 at h A1
  go_enter Try.func67, Try.ntmps67
  go_wp2_with (first | ((with_reducible refine gate_dst (N := 2) rfl ?_); refine box_event ?hg (N := 2) ?hd (cs := #[.slice M D.length O, .slice T J.length X]) (t := 34) ?hr ?_; (case hd => rfl); (case hg => rfl); (case hr => first | (go_simp; done) | (go_simp; rfl)); intro gb hg w2 hbox hb; have s := am (below_step HB.out hb); have I := am hbox; clear HB; have HB := s; have BG := I; clear s I hg hb hbox) | ((with_reducible refine gate_dst (N := 3) rfl ?_); refine box_event ?hg (N := 3) ?hd (cs := #[.int .i64 y, .int .i64 z]) (t := 36) ?hr ?_; (case hd => rfl); (case hg => rfl); (case hr => first | (go_simp; done) | (go_simp; rfl)); intro gn hg w3 hbox hb; have s := am (below_step HB.out hb); have I := am hbox; have L := am (blk_below BG.out hb); clear HB BG; have HB := s; have BN := I; have BG := L; clear s I L hg hb hbox; have Y : w3.cell? ⟨gn, 0, none⟩ = some (.int .i64 y) := (blk_cell BN.out 0).trans rfl; have Z : w3.cell? ⟨gn, 1, none⟩ = some (.int .i64 z) := (blk_cell BN.out 1).trans rfl))
  refine (impl_NodeOk.calls y z b1 _ A1.out).mono ?_
  rintro e w5 ⟨rfl, hb⟩
  have s := am (below_step (by repeat (first | (with_reducible first | exact HB.out | apply below_alloc | apply pw_below_drewN | apply below_drew1) | exact HB.out)) hb)
  have I := am (blk_below BN.out hb)
  have L := am (blk_below BG.out hb)
  clear HB hb BN BG Y Z
  have HB := s
  have BN := I
  have BG := L
  clear s I L
  cases b1 with
  | false =>
    obtain rfl := Option.some.inj ((if_neg (by decide)).symm.trans h)
    clear h
    go_wp2
    go_ret
    exact ⟨by first | rfl | (simp; done) | (simp [*]; done), by repeat (first | (with_reducible first | exact HB.out | apply below_alloc | apply pw_below_drewN | apply below_drew1) | exact HB.out)⟩
  | true =>
    replace h := (if_pos rfl).symm.trans h
    obtain ⟨⟨q1, q2⟩, hq, h⟩ := Option.bind_eq_some_iff.1 h
    have HQ := am hq
    clear hq
    have Y : w5.cell? ⟨gn, 0, none⟩ = some (.int .i64 y) := (blk_cell BN.out 0).trans rfl
    have Z : w5.cell? ⟨gn, 1, none⟩ = some (.int .i64 z) := (blk_cell BN.out 1).trans rfl
    have hcg0 : w5.cell? ⟨gb, 0, none⟩ = some (.slice M D.length O) := (blk_cell BG.out 0).trans rfl
    go_wp2_with fail
    refine (impl_bsf.calls k _ _ D y z q1 q2 _ ?ag af.out HQ.out).mono ?_
    case ag => repeat (first | exact (Kd.C_below ae.out HB.out) | (with_reducible refine Kd.C_alloc ?_ _) | (with_reducible refine Kd.C_drewN ?_ _) | (with_reducible refine Kd.C_drew ?_))
    rintro e w6 ⟨rfl, hb⟩
    have s := am (below_step (by repeat (first | (with_reducible first | exact HB.out | apply below_alloc | apply pw_below_drewN | apply below_drew1) | exact HB.out)) hb)
    clear HB hb BN BG Y Z hcg0
    have HB := s
    clear s
    cases q2 with
    | true =>
      obtain rfl := Option.some.inj ((if_pos rfl).symm.trans h)
      clear h
      go_wp2
      go_ret
      exact ⟨by first | rfl | (simp; done) | (simp [*]; done), by repeat (first | (with_reducible first | exact HB.out | apply below_alloc | apply pw_below_drewN | apply below_drew1) | exact HB.out)⟩
    | false =>
      obtain rfl := Option.some.inj ((if_neg (by decide)).symm.trans h)
      clear h
      go_wp2
      go_ret
      exact ⟨by first | rfl | (simp; done) | (simp [*]; done), by repeat (first | (with_reducible first | exact HB.out | apply below_alloc | apply pw_below_drewN | apply below_drew1) | exact HB.out)⟩

end Go.Proofs.Ytohmemckdogljaa.QFnExactWalkCore
