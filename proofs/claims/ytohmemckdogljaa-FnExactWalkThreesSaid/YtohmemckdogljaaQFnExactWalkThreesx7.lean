/- Contracts of the Go functions that this law reaches: each does what its plain Lean function says. No condition. -/
import Derived.Test.YtohmemckdogljaaQFnExactWalkThreesx0
import Derived.Test.YtohmemckdogljaaQFnExactWalkThreesx1
import Derived.Test.YtohmemckdogljaaQFnExactWalkThreesx3
import Derived.Test.YtohmemckdogljaaQFnExactWalkThreesx6
namespace Go.Proofs.Ytohmemckdogljaa.QFnExactWalkThrees
open Go.RowKit Go.Proofs.YtohmemckdogljaaW.PrintWords Go.Proofs.YtohmemckdogljaaW.PrintLast Go.Proofs.YtohmemckdogljaaW.PrintMore Go.Proofs.Ytohmemckdogljaa.Bl
attribute [local go_sem] max2_int min2_int max_two min_two max_three min_three max_four min_four   -- for this text's walks alone
set_option linter.unusedVariables false
set_option linter.unusedSimpArgs false
set_option maxHeartbeats 8000000
set_option maxRecDepth 100000

attribute [local go_sem high] eqA36
/-! ### spec_l2Near: function 64 -/
mutual
def spec_l2Near.l0 : Nat → Int → List (S36) → List (S56) → Int → Int → List (S36) → List (S56) → Option ((List (S36)))
 | 0, _, _, _, _, _, _, _ => none
 | k + 1, s, I, y, z, D, G, J => if s < (y.length : Int) then (if 0 ≤ s then (if (((rd_T56 y s).f1.f0) == z && (((rd_T56 y s).f1.f1) == D)) = true then (spec_l2Near.j1 k s I y z D G J ((rd_T56 y s).f2.f0) ((rd_T56 y s).f2.f1)) else (if (!(((rd_T56 y s).f2.f0) == z) || (!(((rd_T56 y s).f2.f1) == D))) = true then (spec_l2Near.l0 k (wrap64 (s + 1)) I y z D G J) else (spec_l2Near.j1 k s I y z D G J ((rd_T56 y s).f1.f0) ((rd_T56 y s).f1.f1)))) else (none)) else ((some (([] : List (S36)) : List (S36))).bind fun L => (if L.length + G.length < 8796093022208 then (some (L ++ G)) else (none)))
def spec_l2Near.j1 : Nat → Int → List (S36) → List (S56) → Int → Int → List (S36) → List (S56) → Int → Int → Option ((List (S36)))
 | 0, _, _, _, _, _, _, _, _, _ => none
 | k + 1, z, D, G, I, J, s, y, L, M => (spec_l2At.f k s y L M).bind fun T => (if T < 0 then ((spec_l2PutNode.f k s y L M).bind fun O => (spec_l2Near.l0 k (wrap64 (z + 1)) D G I J O.1 O.2)) else (spec_l2Near.l0 k (wrap64 (z + 1)) D G I J s y))
end
def spec_l2Near.f (k : Nat) (s : List (S36)) (y : List (S56)) (z : Int) (D : Int) : Option ((List (S36))) := spec_l2Near.l0 k 0 s y z D ([] : List (S36)) ([] : List (S56))
theorem spec_l2Near.calls (k : Nat) (a7 : Option Addr) (a8 : Nat) (ar : List (S36)) (bj : Option Addr) (a9 : Nat) (z : List (S56)) (X : Int) (Y : Int) (r : List (S36)) (w : World) (cm : Kd.C k36 w a7 ar.length ar) (cn : ar.length ≤ a8) (co : Kd.C k56 w bj z.length z) (cp : z.length ≤ a9) (h : spec_l2Near.f k ar z X Y = some r) :
  Calls Try.prog 64 #[.agg #[.slice a7 ar.length a8, .slice bj z.length a9], .agg #[.int .i64 X, .int .i64 Y]] w fun e w' => ∃ ct : Value, e = .returned (ct) ∧ Kd.R k36 36 w' w.heap.size (fun _ => True) ct r ∧ Below w.heap.size w w' := by
 have hu34 := Try.underlying34
 have hu36 := Try.underlying36
 have dU := am cm
 have dV := am cn
 clear cm cn
 have bI := am co
 have dW := am cp
 clear co cp
 have HB := am (Below.refl w.heap.size w)
 have H := h; unfold spec_l2Near.f at H
 clear h
 have H' := am H
 clear H
 go_enter Try.func64, Try.ntmps64
 go_wp2_with (first | ((with_reducible refine gd 2 rfl ?_); refine bx 2 (cs := #[.slice a7 ar.length a8, .slice bj z.length a9]) (t := 34) ?_; intro bJ hg w3 hbox hb; have D := am hbox; have cu := gwb HB hg; replace HB := hs HB hb; clear hb hbox hg) | ((with_reducible refine gd 3 rfl ?_); refine bx 3 (cs := #[.int .i64 X, .int .i64 Y]) (t := 36) ?_; intro aa hg w4 hbox hb; have I := am hbox; have cv := gwb HB hg; replace HB := hs HB hb; have ba := nq D hg; have bc := nq' D hg; replace D := bb D hb rfl; clear hb hbox hg) | ((with_reducible refine gd 5 rfl ?_); refine bx 5 (cs := #[.slice none 0 0, .slice none 0 0]) (t := 34) ?_; intro bK hg w5 hbox hb; have J := am hbox; have cy := gwb HB hg; replace HB := hs HB hb; have au := nq D hg; have av := nq' D hg; replace D := bb D hb rfl; have an := nq I hg; have ao := nq' I hg; replace I := bb I hb rfl; clear hb hbox hg; have cz := av.out; have cA := au.out; have cB := ao.out; have cC := an.out; obtain ⟨bL, bM⟩ := bc2 (w := w5) J.out; have bN := blk_frozen J.out))
 repeat (go_quiet (first | ((with_reducible refine gd 2 rfl ?_); refine bx 2 (cs := #[.slice a7 ar.length a8, .slice bj z.length a9]) (t := 34) ?_; intro bJ hg w3 hbox hb; have D := am hbox; have cu := gwb HB hg; replace HB := hs HB hb; clear hb hbox hg) | ((with_reducible refine gd 3 rfl ?_); refine bx 3 (cs := #[.int .i64 X, .int .i64 Y]) (t := 36) ?_; intro aa hg w4 hbox hb; have I := am hbox; have cv := gwb HB hg; replace HB := hs HB hb; have ba := nq D hg; have bc := nq' D hg; replace D := bb D hb rfl; clear hb hbox hg) | ((with_reducible refine gd 5 rfl ?_); refine bx 5 (cs := #[.slice none 0 0, .slice none 0 0]) (t := 34) ?_; intro bK hg w5 hbox hb; have J := am hbox; have cy := gwb HB hg; replace HB := hs HB hb; have au := nq D hg; have av := nq' D hg; replace D := bb D hb rfl; have an := nq I hg; have ao := nq' I hg; replace I := bb I hb rfl; clear hb hbox hg; have cz := av.out; have cA := au.out; have cB := ao.out; have cC := an.out; obtain ⟨bL, bM⟩ := bc2 (w := w5) J.out; have bN := blk_frozen J.out)); try go_wp2_with (first | ((with_reducible refine gd 2 rfl ?_); refine bx 2 (cs := #[.slice a7 ar.length a8, .slice bj z.length a9]) (t := 34) ?_; intro bJ hg w3 hbox hb; have D := am hbox; have cu := gwb HB hg; replace HB := hs HB hb; clear hb hbox hg) | ((with_reducible refine gd 3 rfl ?_); refine bx 3 (cs := #[.int .i64 X, .int .i64 Y]) (t := 36) ?_; intro aa hg w4 hbox hb; have I := am hbox; have cv := gwb HB hg; replace HB := hs HB hb; have ba := nq D hg; have bc := nq' D hg; replace D := bb D hb rfl; clear hb hbox hg) | ((with_reducible refine gd 5 rfl ?_); refine bx 5 (cs := #[.slice none 0 0, .slice none 0 0]) (t := 34) ?_; intro bK hg w5 hbox hb; have J := am hbox; have cy := gwb HB hg; replace HB := hs HB hb; have au := nq D hg; have av := nq' D hg; replace D := bb D hb rfl; have an := nq I hg; have ao := nq' I hg; replace I := bb I hb rfl; clear hb hbox hg; have cz := av.out; have cA := au.out; have cB := ao.out; have cC := an.out; obtain ⟨bL, bM⟩ := bc2 (w := w5) J.out; have bN := blk_frozen J.out)))
 go_loopg [6] k (fun kq v6 w' => ∃ (y : Int) (T : List (S36)) (ab : List (S56)) (bk : Value) (bl : Value), v6 = .int .i64 y ∧ Aside0 (spec_l2Near.l0 kq y ar z X Y T ab = some r) ∧ Aside0 (kq ≤ k) ∧ Aside0 (Kd.R k36 36 w' w.heap.size (fun k_ => k_ ≠ aa) bk T) ∧ Aside0 (Kd.R k56 56 w' w.heap.size (fun _ => True) bl ab) ∧ Aside0 (w'.heap[bJ]? = some (.cells #[(.slice a7 ar.length a8), (.slice bj z.length a9)] 34 (0, 0))) ∧ Aside0 (w'.heap[aa]? = some (.cells #[.int .i64 X, .int .i64 Y] 36 (0, 0))) ∧ Aside0 (w'.heap[bK]? = some (.cells #[bk, bl] 34 (0, 0))) ∧ Aside0 (Below w.heap.size w w'))
 case atStart => exact ⟨(0), (([] : List (S36))), (([] : List (S56))), (.slice none 0 0), (.slice none 0 0), eqs, H', ⟨Nat.le_refl _⟩, ⟨by first | exact Kd.R_nil _ _ _ _ _ | exact Kd.N_nil _ _ _ _ _ | exact Kd.V_nil _ _ _ _ _ | exact Kd.Q_nil _ _ _ _ _ | exact Kd.S_nil _ _ _ _ _⟩, ⟨by first | exact Kd.R_nil _ _ _ _ _ | exact Kd.N_nil _ _ _ _ _ | exact Kd.V_nil _ _ _ _ _ | exact Kd.Q_nil _ _ _ _ _ | exact Kd.S_nil _ _ _ _ _⟩, ⟨bf D.out⟩, ⟨bf I.out⟩, ⟨by (with_reducible repeat (first | refine blk_drewN ?_ _ | refine blk_drew ?_ | refine blk_alloc ?_ _)); refine blk_put (cs := #[.slice none 0 0, .slice none 0 0]) ?_ 1 _ rfl; (with_reducible repeat (first | refine blk_drewN ?_ _ | refine blk_drew ?_ | refine blk_alloc ?_ _)); refine blk_put (cs := #[.slice none 0 0, .slice none 0 0]) ?_ 0 _ rfl; exact bf J.out⟩, ⟨bs HB.out⟩⟩
 case round =>
  clear H'
  try clear p2
  try clear c6
  try clear c7
  try clear bL bM
  try clear bN
  obtain ⟨y, T, ab, bk, bl, rfl, HA, aI, L, M, D, I, J, HB⟩ := hrel
  cases gk with
  | zero => exact absurd HA.out (by simp [spec_l2Near.l0])
  | succ k1 =>
   have H := HA.out
   clear HA
   simp only [spec_l2Near.l0] at H
   by_cases c9 : y < (z.length : Int)
   ·rw [if_pos c9] at H
    have cD : decide (y < (z.length : Int)) = true := decide_eq_true c9
    clear c9
    by_cases bw : 0 ≤ y
    ·rw [if_pos bw] at H
     have di : decide (0 ≤ y) = true := decide_eq_true bw
     clear bw
     have bW := am H
     clear H
     have dX := ba.out
     have dY := bc.out
     have dZ := au.out
     have d0 := av.out
     obtain ⟨dj, dk⟩ := bc2 (w := wr) D.out
     have dl := blk_frozen D.out
     have bO : 0 ≤ (y : Int) := oda
     have bP : y < (z.length : Int) := oda
     obtain ⟨az, dm, bX, bY, bZ, b0, b1⟩ := at_T56 bI.out y bO bP
     cases dm
     replace bX := cb HB bX
     replace bY := cb HB bY
     replace bZ := cb HB bZ
     replace b0 := cb HB b0
     replace b1 := cb HB b1
     replace bO := eq_true bO
     replace bP := eq_true bP
     go_upto_if 24 with (first | ((with_reducible refine gd 7 rfl ?_); refine bx 7 (cs := #[.int .i64 0, .int .i64 0]) (t := 36) ?_; intro G hg Z hbox hb; replace L := am (Kd.R_below (Kd.R_elderB (rl L.out) G (Nat.le_of_eq hg.symm)) hb); replace M := rb M hb; have O := am hbox; have aJ := gwb HB hg; replace HB := hs HB hb; have aA := nq D hg; have aC := nq' D hg; replace D := bb D hb rfl; have aD := nq I hg; have aE := nq' I hg; replace I := bb I hb rfl; have aK := nq J hg; have aM := nq' J hg; replace J := bb J hb rfl; clear hb hbox hg; have cE := aC.out; have cF := aA.out; have cG := aE.out; have cH := aD.out; have cI := aM.out; have cJ := aK.out; obtain ⟨b2, b3⟩ := bc2 (w := Z) O.out; have b4 := blk_frozen O.out; have cK := an.out; have cL := ao.out; obtain ⟨b5, b6⟩ := bc2 (w := Z) I.out; have b7 := blk_frozen I.out))
     repeat (go_quiet (first | ((with_reducible refine gd 7 rfl ?_); refine bx 7 (cs := #[.int .i64 0, .int .i64 0]) (t := 36) ?_; intro G hg Z hbox hb; replace L := am (Kd.R_below (Kd.R_elderB (rl L.out) G (Nat.le_of_eq hg.symm)) hb); replace M := rb M hb; have O := am hbox; have aJ := gwb HB hg; replace HB := hs HB hb; have aA := nq D hg; have aC := nq' D hg; replace D := bb D hb rfl; have aD := nq I hg; have aE := nq' I hg; replace I := bb I hb rfl; have aK := nq J hg; have aM := nq' J hg; replace J := bb J hb rfl; clear hb hbox hg; have cE := aC.out; have cF := aA.out; have cG := aE.out; have cH := aD.out; have cI := aM.out; have cJ := aK.out; obtain ⟨b2, b3⟩ := bc2 (w := Z) O.out; have b4 := blk_frozen O.out; have cK := an.out; have cL := ao.out; obtain ⟨b5, b6⟩ := bc2 (w := Z) I.out; have b7 := blk_frozen I.out)); go_upto_if 24 with (first | ((with_reducible refine gd 7 rfl ?_); refine bx 7 (cs := #[.int .i64 0, .int .i64 0]) (t := 36) ?_; intro G hg Z hbox hb; replace L := am (Kd.R_below (Kd.R_elderB (rl L.out) G (Nat.le_of_eq hg.symm)) hb); replace M := rb M hb; have O := am hbox; have aJ := gwb HB hg; replace HB := hs HB hb; have aA := nq D hg; have aC := nq' D hg; replace D := bb D hb rfl; have aD := nq I hg; have aE := nq' I hg; replace I := bb I hb rfl; have aK := nq J hg; have aM := nq' J hg; replace J := bb J hb rfl; clear hb hbox hg; have cE := aC.out; have cF := aA.out; have cG := aE.out; have cH := aD.out; have cI := aM.out; have cJ := aK.out; obtain ⟨b2, b3⟩ := bc2 (w := Z) O.out; have b4 := blk_frozen O.out; have cK := an.out; have cL := ao.out; obtain ⟨b5, b6⟩ := bc2 (w := Z) I.out; have b7 := blk_frozen I.out)))
     (try simp only [Act.put, List.setIfInBounds_toArray, List.set_cons_zero, List.set_cons_succ])
     go_cut [] (fun wc => ∃ (kq : Nat) (ap : Int) (aq : Int), Aside0 (spec_l2Near.j1 kq y ar z X Y T ab ap aq = some r) ∧ Aside0 (kq ≤ k1) ∧ Aside0 (Kd.R k36 36 wc w.heap.size (fun k_ => k_ ≠ aa ∧ k_ ≠ G) bk T) ∧ Aside0 (Kd.R k56 56 wc w.heap.size (fun _ => True) bl ab) ∧ Aside0 (wc.heap[bJ]? = some (.cells #[(.slice a7 ar.length a8), (.slice (some az) z.length a9)] 34 (0, 0))) ∧ Aside0 (wc.heap[aa]? = some (.cells #[.int .i64 X, .int .i64 Y] 36 (0, 0))) ∧ Aside0 (wc.heap[bK]? = some (.cells #[bk, bl] 34 (0, 0))) ∧ Aside0 (wc.heap[G]? = some (.cells #[.int .i64 ap, .int .i64 aq] 36 (0, 0))) ∧ Aside0 (Below w.heap.size w wc))
     case first =>
      have H := bW.out
      clear bW
      by_cases aw : (((rd_T56 z y).f1.f0) == X && (((rd_T56 z y).f1.f1) == Y)) = true
      ·rw [if_pos aw] at H
       have bm : (((rd_T56 z y).f1.f0) == X && (((rd_T56 z y).f1.f1) == Y)) = true := aw
       (try (have cM : decide (((rd_T56 z y).f1.f0) = X && (((rd_T56 z y).f1.f1) == Y)) = true := by simpa using aw))
       (try (have cN : (((rd_T56 z y).f1.f0) == X && (((rd_T56 z y).f1.f1) == Y)) = true := by simpa using aw))
       clear aw
       (first | rw [bm] | (simp only [i64_w, i32_w]; rw [bm]) | skip)
       have H' := am H
       clear H
       have d1 := ba.out
       have d2 := bc.out
       have d3 := au.out
       have d4 := av.out
       have d5 := aA.out
       have d6 := aC.out
       obtain ⟨dp, dq⟩ := bc2 (w := Z) D.out
       have dr := blk_frozen D.out
       have bQ : 0 ≤ (y : Int) := oda
       have bR : y < (z.length : Int) := oda
       obtain ⟨dt, du, aG, aN, aP, aQ, aT⟩ := at_T56 bI.out y bQ bR
       obtain rfl : az = dt := (by injection du)
       have hn230_0 : az.block ≠ G := Nat.ne_of_lt (Nat.lt_of_lt_of_le (by have := World.block_lt_of_cell? _ _ aG; first | rwa [add_block] at this | exact this) aJ.out)
       have hn230_1 : az.block ≠ G := Nat.ne_of_lt (Nat.lt_of_lt_of_le (by have := World.block_lt_of_cell? _ _ aG; first | rwa [add_block] at this | exact this) aJ.out)
       replace aG := cb HB aG
       replace aN := cb HB aN
       replace aP := cb HB aP
       replace aQ := cb HB aQ
       replace aT := cb HB aT
       replace aG := (cell_far (p := ⟨G, 0, none⟩) (by first | (rw [add_block]; exact hn230_0) | (show (Addr.add _ _).block ≠ _; rw [add_block]; exact hn230_0) | exact hn230_0) (.int .i64 ((rd_T56 z y).f1.f0))).trans aG
       replace aN := (cell_far (p := ⟨G, 0, none⟩) (by first | (rw [add_block]; exact hn230_0) | (show (Addr.add _ _).block ≠ _; rw [add_block]; exact hn230_0) | exact hn230_0) (.int .i64 ((rd_T56 z y).f1.f0))).trans aN
       replace aP := (cell_far (p := ⟨G, 0, none⟩) (by first | (rw [add_block]; exact hn230_0) | (show (Addr.add _ _).block ≠ _; rw [add_block]; exact hn230_0) | exact hn230_0) (.int .i64 ((rd_T56 z y).f1.f0))).trans aP
       replace aQ := (cell_far (p := ⟨G, 0, none⟩) (by first | (rw [add_block]; exact hn230_0) | (show (Addr.add _ _).block ≠ _; rw [add_block]; exact hn230_0) | exact hn230_0) (.int .i64 ((rd_T56 z y).f1.f0))).trans aQ
       replace aT := (cell_far (p := ⟨G, 0, none⟩) (by first | (rw [add_block]; exact hn230_0) | (show (Addr.add _ _).block ≠ _; rw [add_block]; exact hn230_0) | exact hn230_0) (.int .i64 ((rd_T56 z y).f1.f0))).trans aT
       replace aG := (cell_far (p := ⟨G, 1, none⟩) (by first | (rw [add_block]; exact hn230_1) | (show (Addr.add _ _).block ≠ _; rw [add_block]; exact hn230_1) | exact hn230_1) (.int .i64 ((rd_T56 z y).f1.f1))).trans aG
       replace aN := (cell_far (p := ⟨G, 1, none⟩) (by first | (rw [add_block]; exact hn230_1) | (show (Addr.add _ _).block ≠ _; rw [add_block]; exact hn230_1) | exact hn230_1) (.int .i64 ((rd_T56 z y).f1.f1))).trans aN
       replace aP := (cell_far (p := ⟨G, 1, none⟩) (by first | (rw [add_block]; exact hn230_1) | (show (Addr.add _ _).block ≠ _; rw [add_block]; exact hn230_1) | exact hn230_1) (.int .i64 ((rd_T56 z y).f1.f1))).trans aP
       replace aQ := (cell_far (p := ⟨G, 1, none⟩) (by first | (rw [add_block]; exact hn230_1) | (show (Addr.add _ _).block ≠ _; rw [add_block]; exact hn230_1) | exact hn230_1) (.int .i64 ((rd_T56 z y).f1.f1))).trans aQ
       replace aT := (cell_far (p := ⟨G, 1, none⟩) (by first | (rw [add_block]; exact hn230_1) | (show (Addr.add _ _).block ≠ _; rw [add_block]; exact hn230_1) | exact hn230_1) (.int .i64 ((rd_T56 z y).f1.f1))).trans aT
       (try have hy230_0 := fun (n_ : Nat) => (show ((((Z.drewN n_).setCell ⟨G, 0, none⟩ (.int .i64 ((rd_T56 z y).f1.f0))).setCell ⟨G, 1, none⟩ (.int .i64 ((rd_T56 z y).f1.f1)))).cell? _ = some _ from aG))
       (try have hy230_1 := fun (n_ : Nat) => (show ((((Z.drewN n_).setCell ⟨G, 0, none⟩ (.int .i64 ((rd_T56 z y).f1.f0))).setCell ⟨G, 1, none⟩ (.int .i64 ((rd_T56 z y).f1.f1)))).cell? _ = some _ from aN))
       (try have hy230_2 := fun (n_ : Nat) => (show ((((Z.drewN n_).setCell ⟨G, 0, none⟩ (.int .i64 ((rd_T56 z y).f1.f0))).setCell ⟨G, 1, none⟩ (.int .i64 ((rd_T56 z y).f1.f1)))).cell? _ = some _ from aP))
       (try have hy230_3 := fun (n_ : Nat) => (show ((((Z.drewN n_).setCell ⟨G, 0, none⟩ (.int .i64 ((rd_T56 z y).f1.f0))).setCell ⟨G, 1, none⟩ (.int .i64 ((rd_T56 z y).f1.f1)))).cell? _ = some _ from aQ))
       (try have hy230_4 := fun (n_ : Nat) => (show ((((Z.drewN n_).setCell ⟨G, 0, none⟩ (.int .i64 ((rd_T56 z y).f1.f0))).setCell ⟨G, 1, none⟩ (.int .i64 ((rd_T56 z y).f1.f1)))).cell? _ = some _ from aT))
       clear hn230_0
       clear hn230_1
       replace bQ := eq_true bQ
       replace bR := eq_true bR
       have d7 := aE.out
       have d8 := aD.out
       have d9 := aM.out
       have ea := aK.out
       obtain ⟨dv, dw⟩ := bc2 (w := Z) O.out
       have dx := blk_frozen O.out
       go_wp2
       repeat (go_quiet (fail); try go_wp2)
       go_meet
       case rel => exact ⟨_, ((rd_T56 z y).f2.f0), ((rd_T56 z y).f2.f1), H', ⟨by have := aI.out; first | omega | exact Nat.le_refl _⟩, ⟨by (with_reducible repeat (first | apply Kd.R_alloc | apply Kd.R_drewN | apply Kd.R_drew)); exact Kd.R_mono (Kd.R_far (p := ⟨G, 1, none⟩) (Kd.R_far (p := ⟨G, 0, none⟩) (Kd.R_far (p := ⟨G, 1, none⟩) (Kd.R_far (p := ⟨G, 0, none⟩) (Kd.R_mono L.out (fun k_ hk => (⟨hk, hk.2⟩ : _ ∧ k_ ≠ G))) (fun _ hk => hk.2) (.int .i64 ((rd_T56 z y).f1.f0))) (fun _ hk => hk.2) (.int .i64 ((rd_T56 z y).f1.f1))) (fun _ hk => hk.2) (.int .i64 ((rd_T56 z y).f2.f0))) (fun _ hk => hk.2) (.int .i64 ((rd_T56 z y).f2.f1))) (fun _ hk => ⟨hk.1.1, hk.1.2⟩)⟩, ⟨Kd.R_mono (rt M.out O.out (by decide)) (fun _ hk => trivial)⟩, ⟨bf D.out⟩, ⟨bf I.out⟩, ⟨bf J.out⟩, ⟨by (with_reducible repeat (first | refine blk_drewN ?_ _ | refine blk_drew ?_ | refine blk_alloc ?_ _)); refine blk_put (cs := #[.int .i64 ((rd_T56 z y).f2.f0), .int .i64 ((rd_T56 z y).f1.f1)]) ?_ 1 _ rfl; (with_reducible repeat (first | refine blk_drewN ?_ _ | refine blk_drew ?_ | refine blk_alloc ?_ _)); refine blk_put (cs := #[.int .i64 ((rd_T56 z y).f1.f0), .int .i64 ((rd_T56 z y).f1.f1)]) ?_ 0 _ rfl; (with_reducible repeat (first | refine blk_drewN ?_ _ | refine blk_drew ?_ | refine blk_alloc ?_ _)); refine blk_put (cs := #[.int .i64 ((rd_T56 z y).f1.f0), .int .i64 0]) ?_ 1 _ rfl; (with_reducible repeat (first | refine blk_drewN ?_ _ | refine blk_drew ?_ | refine blk_alloc ?_ _)); refine blk_put (cs := #[.int .i64 0, .int .i64 0]) ?_ 0 _ rfl; exact bf O.out⟩, ⟨bs HB.out⟩⟩
      ·rw [if_neg aw] at H
       have bm : (((rd_T56 z y).f1.f0) == X && (((rd_T56 z y).f1.f1) == Y)) = false := by simpa using aw
       (try (have cM : decide (((rd_T56 z y).f1.f0) = X && (((rd_T56 z y).f1.f1) == Y)) = false := by simpa using aw))
       (try (have cN : (((rd_T56 z y).f1.f0) == X && (((rd_T56 z y).f1.f1) == Y)) = false := by simpa using aw))
       (try (have eb : ¬ (((rd_T56 z y).f1.f0) = X && (((rd_T56 z y).f1.f1) == Y)) := by simpa using aw))
       clear aw
       (first | rw [bm] | (simp only [i64_w, i32_w]; rw [bm]) | skip)
       by_cases be : (!(((rd_T56 z y).f2.f0) == X) || (!(((rd_T56 z y).f2.f1) == Y))) = true
       ·rw [if_pos be] at H
        have cO : (!(((rd_T56 z y).f2.f0) == X) || (!(((rd_T56 z y).f2.f1) == Y))) = true := be
        clear be
        have H' := am H
        clear H
        have ec := ba.out
        have ed := bc.out
        have ee := au.out
        have ef := av.out
        have eg := aA.out
        have eh := aC.out
        obtain ⟨dy, dz⟩ := bc2 (w := Z) D.out
        have dA := blk_frozen D.out
        have aU : 0 ≤ (y : Int) := oda
        have aV : y < (z.length : Int) := oda
        obtain ⟨b8, b9, ac, ai, aj, ak, al⟩ := at_T56 bI.out y aU aV
        obtain rfl : az = b8 := (by injection b9)
        have hn231_0 : az.block ≠ G := Nat.ne_of_lt (Nat.lt_of_lt_of_le (by have := World.block_lt_of_cell? _ _ ac; first | rwa [add_block] at this | exact this) aJ.out)
        have hn231_1 : az.block ≠ G := Nat.ne_of_lt (Nat.lt_of_lt_of_le (by have := World.block_lt_of_cell? _ _ ac; first | rwa [add_block] at this | exact this) aJ.out)
        replace ac := cb HB ac
        replace ai := cb HB ai
        replace aj := cb HB aj
        replace ak := cb HB ak
        replace al := cb HB al
        replace ac := (cell_far (p := ⟨G, 0, none⟩) (by first | (rw [add_block]; exact hn231_0) | (show (Addr.add _ _).block ≠ _; rw [add_block]; exact hn231_0) | exact hn231_0) (.int .i64 ((rd_T56 z y).f1.f0))).trans ac
        replace ai := (cell_far (p := ⟨G, 0, none⟩) (by first | (rw [add_block]; exact hn231_0) | (show (Addr.add _ _).block ≠ _; rw [add_block]; exact hn231_0) | exact hn231_0) (.int .i64 ((rd_T56 z y).f1.f0))).trans ai
        replace aj := (cell_far (p := ⟨G, 0, none⟩) (by first | (rw [add_block]; exact hn231_0) | (show (Addr.add _ _).block ≠ _; rw [add_block]; exact hn231_0) | exact hn231_0) (.int .i64 ((rd_T56 z y).f1.f0))).trans aj
        replace ak := (cell_far (p := ⟨G, 0, none⟩) (by first | (rw [add_block]; exact hn231_0) | (show (Addr.add _ _).block ≠ _; rw [add_block]; exact hn231_0) | exact hn231_0) (.int .i64 ((rd_T56 z y).f1.f0))).trans ak
        replace al := (cell_far (p := ⟨G, 0, none⟩) (by first | (rw [add_block]; exact hn231_0) | (show (Addr.add _ _).block ≠ _; rw [add_block]; exact hn231_0) | exact hn231_0) (.int .i64 ((rd_T56 z y).f1.f0))).trans al
        replace ac := (cell_far (p := ⟨G, 1, none⟩) (by first | (rw [add_block]; exact hn231_1) | (show (Addr.add _ _).block ≠ _; rw [add_block]; exact hn231_1) | exact hn231_1) (.int .i64 ((rd_T56 z y).f1.f1))).trans ac
        replace ai := (cell_far (p := ⟨G, 1, none⟩) (by first | (rw [add_block]; exact hn231_1) | (show (Addr.add _ _).block ≠ _; rw [add_block]; exact hn231_1) | exact hn231_1) (.int .i64 ((rd_T56 z y).f1.f1))).trans ai
        replace aj := (cell_far (p := ⟨G, 1, none⟩) (by first | (rw [add_block]; exact hn231_1) | (show (Addr.add _ _).block ≠ _; rw [add_block]; exact hn231_1) | exact hn231_1) (.int .i64 ((rd_T56 z y).f1.f1))).trans aj
        replace ak := (cell_far (p := ⟨G, 1, none⟩) (by first | (rw [add_block]; exact hn231_1) | (show (Addr.add _ _).block ≠ _; rw [add_block]; exact hn231_1) | exact hn231_1) (.int .i64 ((rd_T56 z y).f1.f1))).trans ak
        replace al := (cell_far (p := ⟨G, 1, none⟩) (by first | (rw [add_block]; exact hn231_1) | (show (Addr.add _ _).block ≠ _; rw [add_block]; exact hn231_1) | exact hn231_1) (.int .i64 ((rd_T56 z y).f1.f1))).trans al
        (try have hy231_0 := fun (n_ : Nat) => (show ((((Z.drewN n_).setCell ⟨G, 0, none⟩ (.int .i64 ((rd_T56 z y).f1.f0))).setCell ⟨G, 1, none⟩ (.int .i64 ((rd_T56 z y).f1.f1)))).cell? _ = some _ from ac))
        (try have hy231_1 := fun (n_ : Nat) => (show ((((Z.drewN n_).setCell ⟨G, 0, none⟩ (.int .i64 ((rd_T56 z y).f1.f0))).setCell ⟨G, 1, none⟩ (.int .i64 ((rd_T56 z y).f1.f1)))).cell? _ = some _ from ai))
        (try have hy231_2 := fun (n_ : Nat) => (show ((((Z.drewN n_).setCell ⟨G, 0, none⟩ (.int .i64 ((rd_T56 z y).f1.f0))).setCell ⟨G, 1, none⟩ (.int .i64 ((rd_T56 z y).f1.f1)))).cell? _ = some _ from aj))
        (try have hy231_3 := fun (n_ : Nat) => (show ((((Z.drewN n_).setCell ⟨G, 0, none⟩ (.int .i64 ((rd_T56 z y).f1.f0))).setCell ⟨G, 1, none⟩ (.int .i64 ((rd_T56 z y).f1.f1)))).cell? _ = some _ from ak))
        (try have hy231_4 := fun (n_ : Nat) => (show ((((Z.drewN n_).setCell ⟨G, 0, none⟩ (.int .i64 ((rd_T56 z y).f1.f0))).setCell ⟨G, 1, none⟩ (.int .i64 ((rd_T56 z y).f1.f1)))).cell? _ = some _ from al))
        clear hn231_0
        clear hn231_1
        replace aU := eq_true aU
        replace aV := eq_true aV
        have ei := an.out
        have ej := ao.out
        have ek := aD.out
        have el := aE.out
        obtain ⟨dB, dC⟩ := bc2 (w := Z) I.out
        have dD := blk_frozen I.out
        go_wp2
        repeat (go_quiet (fail); try go_wp2)
        go_roundg k1
        case measure => have := aI.out; omega
        case rel => exact ⟨(wrap64 (y + 1)), (T), (ab), (bk), (bl), eqs, H', ⟨by have := aI.out; omega⟩, ⟨by (with_reducible repeat (first | apply Kd.R_alloc | apply Kd.R_drewN | apply Kd.R_drew)); exact Kd.R_mono (Kd.R_far (p := ⟨G, 1, none⟩) (Kd.R_far (p := ⟨G, 0, none⟩) (Kd.R_mono L.out (fun k_ hk => (⟨hk, hk.2⟩ : _ ∧ k_ ≠ G))) (fun _ hk => hk.2) (.int .i64 ((rd_T56 z y).f1.f0))) (fun _ hk => hk.2) (.int .i64 ((rd_T56 z y).f1.f1))) (fun _ hk => hk.1.1)⟩, ⟨Kd.R_mono (rt M.out O.out (by decide)) (fun _ hk => trivial)⟩, ⟨bf D.out⟩, ⟨bf I.out⟩, ⟨bf J.out⟩, ⟨bs HB.out⟩⟩
       ·rw [if_neg be] at H
        have cO : (!(((rd_T56 z y).f2.f0) == X) || (!(((rd_T56 z y).f2.f1) == Y))) = false := by simpa using be
        clear be
        have H' := am H
        clear H
        have em := ba.out
        have en := bc.out
        have eo := au.out
        have ep := av.out
        have eq := aA.out
        have er := aC.out
        obtain ⟨dE, dF⟩ := bc2 (w := Z) D.out
        have dG := blk_frozen D.out
        have aU : 0 ≤ (y : Int) := oda
        have aV : y < (z.length : Int) := oda
        obtain ⟨b8, b9, ac, ai, aj, ak, al⟩ := at_T56 bI.out y aU aV
        obtain rfl : az = b8 := (by injection b9)
        have hn231_0 : az.block ≠ G := Nat.ne_of_lt (Nat.lt_of_lt_of_le (by have := World.block_lt_of_cell? _ _ ac; first | rwa [add_block] at this | exact this) aJ.out)
        have hn231_1 : az.block ≠ G := Nat.ne_of_lt (Nat.lt_of_lt_of_le (by have := World.block_lt_of_cell? _ _ ac; first | rwa [add_block] at this | exact this) aJ.out)
        replace ac := cb HB ac
        replace ai := cb HB ai
        replace aj := cb HB aj
        replace ak := cb HB ak
        replace al := cb HB al
        replace ac := (cell_far (p := ⟨G, 0, none⟩) (by first | (rw [add_block]; exact hn231_0) | (show (Addr.add _ _).block ≠ _; rw [add_block]; exact hn231_0) | exact hn231_0) (.int .i64 ((rd_T56 z y).f1.f0))).trans ac
        replace ai := (cell_far (p := ⟨G, 0, none⟩) (by first | (rw [add_block]; exact hn231_0) | (show (Addr.add _ _).block ≠ _; rw [add_block]; exact hn231_0) | exact hn231_0) (.int .i64 ((rd_T56 z y).f1.f0))).trans ai
        replace aj := (cell_far (p := ⟨G, 0, none⟩) (by first | (rw [add_block]; exact hn231_0) | (show (Addr.add _ _).block ≠ _; rw [add_block]; exact hn231_0) | exact hn231_0) (.int .i64 ((rd_T56 z y).f1.f0))).trans aj
        replace ak := (cell_far (p := ⟨G, 0, none⟩) (by first | (rw [add_block]; exact hn231_0) | (show (Addr.add _ _).block ≠ _; rw [add_block]; exact hn231_0) | exact hn231_0) (.int .i64 ((rd_T56 z y).f1.f0))).trans ak
        replace al := (cell_far (p := ⟨G, 0, none⟩) (by first | (rw [add_block]; exact hn231_0) | (show (Addr.add _ _).block ≠ _; rw [add_block]; exact hn231_0) | exact hn231_0) (.int .i64 ((rd_T56 z y).f1.f0))).trans al
        replace ac := (cell_far (p := ⟨G, 1, none⟩) (by first | (rw [add_block]; exact hn231_1) | (show (Addr.add _ _).block ≠ _; rw [add_block]; exact hn231_1) | exact hn231_1) (.int .i64 ((rd_T56 z y).f1.f1))).trans ac
        replace ai := (cell_far (p := ⟨G, 1, none⟩) (by first | (rw [add_block]; exact hn231_1) | (show (Addr.add _ _).block ≠ _; rw [add_block]; exact hn231_1) | exact hn231_1) (.int .i64 ((rd_T56 z y).f1.f1))).trans ai
        replace aj := (cell_far (p := ⟨G, 1, none⟩) (by first | (rw [add_block]; exact hn231_1) | (show (Addr.add _ _).block ≠ _; rw [add_block]; exact hn231_1) | exact hn231_1) (.int .i64 ((rd_T56 z y).f1.f1))).trans aj
        replace ak := (cell_far (p := ⟨G, 1, none⟩) (by first | (rw [add_block]; exact hn231_1) | (show (Addr.add _ _).block ≠ _; rw [add_block]; exact hn231_1) | exact hn231_1) (.int .i64 ((rd_T56 z y).f1.f1))).trans ak
        replace al := (cell_far (p := ⟨G, 1, none⟩) (by first | (rw [add_block]; exact hn231_1) | (show (Addr.add _ _).block ≠ _; rw [add_block]; exact hn231_1) | exact hn231_1) (.int .i64 ((rd_T56 z y).f1.f1))).trans al
        (try have hy231_0 := fun (n_ : Nat) => (show ((((Z.drewN n_).setCell ⟨G, 0, none⟩ (.int .i64 ((rd_T56 z y).f1.f0))).setCell ⟨G, 1, none⟩ (.int .i64 ((rd_T56 z y).f1.f1)))).cell? _ = some _ from ac))
        (try have hy231_1 := fun (n_ : Nat) => (show ((((Z.drewN n_).setCell ⟨G, 0, none⟩ (.int .i64 ((rd_T56 z y).f1.f0))).setCell ⟨G, 1, none⟩ (.int .i64 ((rd_T56 z y).f1.f1)))).cell? _ = some _ from ai))
        (try have hy231_2 := fun (n_ : Nat) => (show ((((Z.drewN n_).setCell ⟨G, 0, none⟩ (.int .i64 ((rd_T56 z y).f1.f0))).setCell ⟨G, 1, none⟩ (.int .i64 ((rd_T56 z y).f1.f1)))).cell? _ = some _ from aj))
        (try have hy231_3 := fun (n_ : Nat) => (show ((((Z.drewN n_).setCell ⟨G, 0, none⟩ (.int .i64 ((rd_T56 z y).f1.f0))).setCell ⟨G, 1, none⟩ (.int .i64 ((rd_T56 z y).f1.f1)))).cell? _ = some _ from ak))
        (try have hy231_4 := fun (n_ : Nat) => (show ((((Z.drewN n_).setCell ⟨G, 0, none⟩ (.int .i64 ((rd_T56 z y).f1.f0))).setCell ⟨G, 1, none⟩ (.int .i64 ((rd_T56 z y).f1.f1)))).cell? _ = some _ from al))
        clear hn231_0
        clear hn231_1
        replace aU := eq_true aU
        replace aV := eq_true aV
        have es := an.out
        have et := ao.out
        have eu := aD.out
        have ev := aE.out
        obtain ⟨dH, dI⟩ := bc2 (w := Z) I.out
        have dJ := blk_frozen I.out
        go_wp2
        repeat (go_quiet (fail); try go_wp2)
        go_meet
        case rel => exact ⟨_, ((rd_T56 z y).f1.f0), ((rd_T56 z y).f1.f1), H', ⟨by have := aI.out; first | omega | exact Nat.le_refl _⟩, ⟨by (with_reducible repeat (first | apply Kd.R_alloc | apply Kd.R_drewN | apply Kd.R_drew)); exact Kd.R_mono (Kd.R_far (p := ⟨G, 1, none⟩) (Kd.R_far (p := ⟨G, 0, none⟩) (Kd.R_mono L.out (fun k_ hk => (⟨hk, hk.2⟩ : _ ∧ k_ ≠ G))) (fun _ hk => hk.2) (.int .i64 ((rd_T56 z y).f1.f0))) (fun _ hk => hk.2) (.int .i64 ((rd_T56 z y).f1.f1))) (fun _ hk => ⟨hk.1.1, hk.1.2⟩)⟩, ⟨Kd.R_mono (rt M.out O.out (by decide)) (fun _ hk => trivial)⟩, ⟨bf D.out⟩, ⟨bf I.out⟩, ⟨bf J.out⟩, ⟨by (with_reducible repeat (first | refine blk_drewN ?_ _ | refine blk_drew ?_ | refine blk_alloc ?_ _)); refine blk_put (cs := #[.int .i64 ((rd_T56 z y).f1.f0), .int .i64 0]) ?_ 1 _ rfl; (with_reducible repeat (first | refine blk_drewN ?_ _ | refine blk_drew ?_ | refine blk_alloc ?_ _)); refine blk_put (cs := #[.int .i64 0, .int .i64 0]) ?_ 0 _ rfl; exact bf O.out⟩, ⟨bs HB.out⟩⟩
     case rest =>
      clear bW
      try clear c1
      try clear c2
      try clear p2
      try clear q2
      try clear ew
      try clear c3
      try clear c4
      try clear c6
      try clear p6
      try clear c7
      try clear c9
      try clear cD
      try clear bw
      try clear di
      try clear ex
      try clear ey
      try clear ez
      try clear eA
      try clear eB
      try clear eC
      try clear aw
      try clear bm
      try clear cM
      try clear cN
      try clear eD
      try clear eE
      try clear eF
      try clear eG
      try clear eH
      try clear eI
      try clear eJ
      try clear eK
      try clear eL
      try clear eM
      try clear eN
      try clear be
      try clear cO
      try clear eO
      try clear eP
      try clear eQ
      try clear eR
      try clear eS
      try clear eT
      try clear eU
      try clear eV
      try clear eW
      try clear eX
      try clear dj dk
      try clear b2 b3
      try clear b5 b6
      try clear dp dq
      try clear dv dw
      try clear dy dz
      try clear dB dC
      try clear dE dF
      try clear dH dI
      try clear bL bM
      try clear dl
      try clear b4
      try clear b7
      try clear dr
      try clear dx
      try clear dA
      try clear dD
      try clear dG
      try clear dJ
      try clear bN
      try clear bX
      try clear bY
      try clear bZ
      try clear b0
      try clear b1
      try clear aG
      try clear aN
      try clear aP
      try clear aQ
      try clear aT
      try clear ac
      try clear ai
      try clear aj
      try clear ak
      try clear al
      try clear p2
      try clear bO
      try clear bQ
      try clear aU
      try clear bP
      try clear bR
      try clear aV
      obtain ⟨kq, ap, aq, HA, bS, L, M, D, I, J, O, HB⟩ := hcut
      cases kq with
      | zero => exact absurd HA.out (by simp [spec_l2Near.j1])
      | succ ax =>
       have H := HA.out
       clear HA
       simp only [spec_l2Near.j1] at H
       replace H := Option.bind_eq_some_iff.mp H
       obtain ⟨aH, cP, H⟩ := H
       try dsimp -simprocs only at H
       have bn := am cP
       clear cP
       by_cases bo : aH < 0
       ·rw [if_pos bo] at H
        have dK : decide (aH < 0) = true := decide_eq_true bo
        clear bo
        replace H := Option.bind_eq_some_iff.mp H
        obtain ⟨⟨br, bz⟩, cQ, H⟩ := H
        try dsimp -simprocs only at H
        have ce := am cQ
        clear cQ
        have H' := am H
        clear H
        have eY := av.out
        have eZ := au.out
        have e0 := ao.out
        have e1 := an.out
        have e2 := aK.out
        have e3 := aM.out
        obtain ⟨e4, e5⟩ := bc2 (w := wc) J.out
        have e6 := blk_frozen J.out
        have e7 := aC.out
        have e8 := aA.out
        have e9 := aE.out
        have fa := aD.out
        obtain ⟨fb, fc⟩ := bc2 (w := wc) O.out
        have fd := blk_frozen O.out
        obtain ⟨bg, bh, dL⟩ := Kd.R_slice L.out
        subst dL
        obtain ⟨aW, aX, dM⟩ := Kd.R_slice M.out
        subst dM
        go_wp2_with (first | (go_at_call 62; (with_reducible refine (spec_l2At.calls ax _ _ T _ _ ab ap aq aH _ ?af ?ag ?ah ?ay bn.out).mono ?_); (case af => exact cr L); (case ag => exact cc L); (case ah => exact cr M); (case ay => exact cc M); rintro e aY ⟨rfl, hb⟩; replace L := rb L hb; replace M := rb M hb; replace D := bb D hb rfl; replace I := bb I hb rfl; replace J := bb J hb rfl; replace O := bb O hb rfl; replace HB := hs HB hb; (try clear hb); obtain ⟨cR, cS⟩ := bc2 (w := aY) J.out; have cT := blk_frozen J.out; obtain ⟨cU, cV⟩ := bc2 (w := aY) O.out; have cW := blk_frozen O.out) | (go_at_call 109; (with_reducible refine (spec_l2PutNode.calls ax (fun k_ => some k_ = (.slice bg T.length bh : Value).ownBlock) (.slice bg T.length bh) T (fun k_ => some k_ = (.slice aW ab.length aX : Value).ownBlock) (.slice aW ab.length aX) ab ap aq br bz w _ ?af ?ag ?ah ce.out).mono ?_); (case af => exact bs HB.out); (case ag => exact Kd.R_tight rfl L.out); (case ah => exact Kd.R_tight rfl M.out); rintro e bA ⟨cX, cY, rfl, aZ, a6, hb, hkp⟩; replace D := am (blk_kept (bf D.out) hkp (fun hs_ => Or.elim hs_ (fun e_ => (fun e_ => (Kd.R_ne L.out D.out (by decide)) e_) e_) (fun e_ => (fun e_ => (Kd.R_ne M.out D.out (by decide)) e_) e_))); replace J := am (blk_kept (bf J.out) hkp (fun hs_ => Or.elim hs_ (fun e_ => (fun e_ => (Kd.R_ne L.out J.out (by decide)) e_) e_) (fun e_ => (fun e_ => (Kd.R_ne M.out J.out (by decide)) e_) e_))); have bt := am (Kd.R_mono (ok' := fun k_ => k_ ≠ aa ∧ k_ ≠ G) aZ (fun k_ hk_ => ⟨Or.elim hk_ (fun hs_ => Or.elim hs_ (fun hs_ => fun e_ => (Kd.R_away L.out (fun _ hk => hk.1)) (by rw [← e_]; exact hs_)) (fun hs_ => fun e_ => (Kd.R_ne M.out I.out (by decide)) (by rw [← e_]; exact hs_))) (fun hn_ => (Kd.freshB (g := aa) (o := .cells #[.int .i64 X, .int .i64 Y] 36 (0, 0)) (bf I.out) k_ hn_)), Or.elim hk_ (fun hs_ => Or.elim hs_ (fun hs_ => fun e_ => (Kd.R_away L.out (fun _ hk => hk.2)) (by rw [← e_]; exact hs_)) (fun hs_ => fun e_ => (Kd.R_ne M.out O.out (by decide)) (by rw [← e_]; exact hs_))) (fun hn_ => (Kd.freshB (g := G) (o := .cells #[.int .i64 ap, .int .i64 aq] 36 (0, 0)) (bf O.out) k_ hn_))⟩)); replace I := am (blk_kept (bf I.out) hkp (fun hs_ => Or.elim hs_ (fun e_ => (fun e_ => (Kd.R_away L.out (fun _ hk => hk.1)) e_) e_) (fun e_ => (fun e_ => (Kd.R_ne M.out I.out (by decide)) e_) e_))); replace O := am (blk_kept (bf O.out) hkp (fun hs_ => Or.elim hs_ (fun e_ => (fun e_ => (Kd.R_away L.out (fun _ hk => hk.2)) e_) e_) (fun e_ => (fun e_ => (Kd.R_ne M.out O.out (by decide)) e_) e_))); have bu := am (Kd.R_mono (ok' := fun k_ => True) a6 (fun k_ hk_ => trivial)); replace HB := am hb; clear L M; (try clear aZ a6 hb hkp); obtain ⟨bT, bU, bB⟩ := Kd.R_slice bt.out; subst bB; obtain ⟨cZ, c0⟩ := bc2 (w := bA) J.out; have c5 := blk_frozen J.out; obtain ⟨cf, cg, bC⟩ := Kd.R_slice bu.out; subst bC))
        repeat (go_quiet (first | (go_at_call 62; (with_reducible refine (spec_l2At.calls ax _ _ T _ _ ab ap aq aH _ ?af ?ag ?ah ?ay bn.out).mono ?_); (case af => exact cr L); (case ag => exact cc L); (case ah => exact cr M); (case ay => exact cc M); rintro e aY ⟨rfl, hb⟩; replace L := rb L hb; replace M := rb M hb; replace D := bb D hb rfl; replace I := bb I hb rfl; replace J := bb J hb rfl; replace O := bb O hb rfl; replace HB := hs HB hb; (try clear hb); obtain ⟨cR, cS⟩ := bc2 (w := aY) J.out; have cT := blk_frozen J.out; obtain ⟨cU, cV⟩ := bc2 (w := aY) O.out; have cW := blk_frozen O.out) | (go_at_call 109; (with_reducible refine (spec_l2PutNode.calls ax (fun k_ => some k_ = (.slice bg T.length bh : Value).ownBlock) (.slice bg T.length bh) T (fun k_ => some k_ = (.slice aW ab.length aX : Value).ownBlock) (.slice aW ab.length aX) ab ap aq br bz w _ ?af ?ag ?ah ce.out).mono ?_); (case af => exact bs HB.out); (case ag => exact Kd.R_tight rfl L.out); (case ah => exact Kd.R_tight rfl M.out); rintro e bA ⟨cX, cY, rfl, aZ, a6, hb, hkp⟩; replace D := am (blk_kept (bf D.out) hkp (fun hs_ => Or.elim hs_ (fun e_ => (fun e_ => (Kd.R_ne L.out D.out (by decide)) e_) e_) (fun e_ => (fun e_ => (Kd.R_ne M.out D.out (by decide)) e_) e_))); replace J := am (blk_kept (bf J.out) hkp (fun hs_ => Or.elim hs_ (fun e_ => (fun e_ => (Kd.R_ne L.out J.out (by decide)) e_) e_) (fun e_ => (fun e_ => (Kd.R_ne M.out J.out (by decide)) e_) e_))); have bt := am (Kd.R_mono (ok' := fun k_ => k_ ≠ aa ∧ k_ ≠ G) aZ (fun k_ hk_ => ⟨Or.elim hk_ (fun hs_ => Or.elim hs_ (fun hs_ => fun e_ => (Kd.R_away L.out (fun _ hk => hk.1)) (by rw [← e_]; exact hs_)) (fun hs_ => fun e_ => (Kd.R_ne M.out I.out (by decide)) (by rw [← e_]; exact hs_))) (fun hn_ => (Kd.freshB (g := aa) (o := .cells #[.int .i64 X, .int .i64 Y] 36 (0, 0)) (bf I.out) k_ hn_)), Or.elim hk_ (fun hs_ => Or.elim hs_ (fun hs_ => fun e_ => (Kd.R_away L.out (fun _ hk => hk.2)) (by rw [← e_]; exact hs_)) (fun hs_ => fun e_ => (Kd.R_ne M.out O.out (by decide)) (by rw [← e_]; exact hs_))) (fun hn_ => (Kd.freshB (g := G) (o := .cells #[.int .i64 ap, .int .i64 aq] 36 (0, 0)) (bf O.out) k_ hn_))⟩)); replace I := am (blk_kept (bf I.out) hkp (fun hs_ => Or.elim hs_ (fun e_ => (fun e_ => (Kd.R_away L.out (fun _ hk => hk.1)) e_) e_) (fun e_ => (fun e_ => (Kd.R_ne M.out I.out (by decide)) e_) e_))); replace O := am (blk_kept (bf O.out) hkp (fun hs_ => Or.elim hs_ (fun e_ => (fun e_ => (Kd.R_away L.out (fun _ hk => hk.2)) e_) e_) (fun e_ => (fun e_ => (Kd.R_ne M.out O.out (by decide)) e_) e_))); have bu := am (Kd.R_mono (ok' := fun k_ => True) a6 (fun k_ hk_ => trivial)); replace HB := am hb; clear L M; (try clear aZ a6 hb hkp); obtain ⟨bT, bU, bB⟩ := Kd.R_slice bt.out; subst bB; obtain ⟨cZ, c0⟩ := bc2 (w := bA) J.out; have c5 := blk_frozen J.out; obtain ⟨cf, cg, bC⟩ := Kd.R_slice bu.out; subst bC)); try go_wp2_with (first | (go_at_call 62; (with_reducible refine (spec_l2At.calls ax _ _ T _ _ ab ap aq aH _ ?af ?ag ?ah ?ay bn.out).mono ?_); (case af => exact cr L); (case ag => exact cc L); (case ah => exact cr M); (case ay => exact cc M); rintro e aY ⟨rfl, hb⟩; replace L := rb L hb; replace M := rb M hb; replace D := bb D hb rfl; replace I := bb I hb rfl; replace J := bb J hb rfl; replace O := bb O hb rfl; replace HB := hs HB hb; (try clear hb); obtain ⟨cR, cS⟩ := bc2 (w := aY) J.out; have cT := blk_frozen J.out; obtain ⟨cU, cV⟩ := bc2 (w := aY) O.out; have cW := blk_frozen O.out) | (go_at_call 109; (with_reducible refine (spec_l2PutNode.calls ax (fun k_ => some k_ = (.slice bg T.length bh : Value).ownBlock) (.slice bg T.length bh) T (fun k_ => some k_ = (.slice aW ab.length aX : Value).ownBlock) (.slice aW ab.length aX) ab ap aq br bz w _ ?af ?ag ?ah ce.out).mono ?_); (case af => exact bs HB.out); (case ag => exact Kd.R_tight rfl L.out); (case ah => exact Kd.R_tight rfl M.out); rintro e bA ⟨cX, cY, rfl, aZ, a6, hb, hkp⟩; replace D := am (blk_kept (bf D.out) hkp (fun hs_ => Or.elim hs_ (fun e_ => (fun e_ => (Kd.R_ne L.out D.out (by decide)) e_) e_) (fun e_ => (fun e_ => (Kd.R_ne M.out D.out (by decide)) e_) e_))); replace J := am (blk_kept (bf J.out) hkp (fun hs_ => Or.elim hs_ (fun e_ => (fun e_ => (Kd.R_ne L.out J.out (by decide)) e_) e_) (fun e_ => (fun e_ => (Kd.R_ne M.out J.out (by decide)) e_) e_))); have bt := am (Kd.R_mono (ok' := fun k_ => k_ ≠ aa ∧ k_ ≠ G) aZ (fun k_ hk_ => ⟨Or.elim hk_ (fun hs_ => Or.elim hs_ (fun hs_ => fun e_ => (Kd.R_away L.out (fun _ hk => hk.1)) (by rw [← e_]; exact hs_)) (fun hs_ => fun e_ => (Kd.R_ne M.out I.out (by decide)) (by rw [← e_]; exact hs_))) (fun hn_ => (Kd.freshB (g := aa) (o := .cells #[.int .i64 X, .int .i64 Y] 36 (0, 0)) (bf I.out) k_ hn_)), Or.elim hk_ (fun hs_ => Or.elim hs_ (fun hs_ => fun e_ => (Kd.R_away L.out (fun _ hk => hk.2)) (by rw [← e_]; exact hs_)) (fun hs_ => fun e_ => (Kd.R_ne M.out O.out (by decide)) (by rw [← e_]; exact hs_))) (fun hn_ => (Kd.freshB (g := G) (o := .cells #[.int .i64 ap, .int .i64 aq] 36 (0, 0)) (bf O.out) k_ hn_))⟩)); replace I := am (blk_kept (bf I.out) hkp (fun hs_ => Or.elim hs_ (fun e_ => (fun e_ => (Kd.R_away L.out (fun _ hk => hk.1)) e_) e_) (fun e_ => (fun e_ => (Kd.R_ne M.out I.out (by decide)) e_) e_))); replace O := am (blk_kept (bf O.out) hkp (fun hs_ => Or.elim hs_ (fun e_ => (fun e_ => (Kd.R_away L.out (fun _ hk => hk.2)) e_) e_) (fun e_ => (fun e_ => (Kd.R_ne M.out O.out (by decide)) e_) e_))); have bu := am (Kd.R_mono (ok' := fun k_ => True) a6 (fun k_ hk_ => trivial)); replace HB := am hb; clear L M; (try clear aZ a6 hb hkp); obtain ⟨bT, bU, bB⟩ := Kd.R_slice bt.out; subst bB; obtain ⟨cZ, c0⟩ := bc2 (w := bA) J.out; have c5 := blk_frozen J.out; obtain ⟨cf, cg, bC⟩ := Kd.R_slice bu.out; subst bC)))
        go_roundg ax
        case measure => have := aI.out; have := bS.out; omega
        case rel => exact ⟨(wrap64 (y + 1)), (br), (bz), (.slice bT br.length bU), (.slice cf bz.length cg), eqs, H', ⟨by have := aI.out; have := bS.out; omega⟩, ⟨Kd.R_mono (rt bt.out J.out (by decide)) (fun _ hk => hk.1)⟩, ⟨Kd.R_mono (rt bu.out J.out (by decide)) (fun _ hk => trivial)⟩, ⟨bf D.out⟩, ⟨bf I.out⟩, ⟨by (with_reducible repeat (first | refine blk_drewN ?_ _ | refine blk_drew ?_ | refine blk_alloc ?_ _)); refine blk_put (cs := #[.slice bT br.length bU, .slice aW ab.length aX]) ?_ 1 _ rfl; (with_reducible repeat (first | refine blk_drewN ?_ _ | refine blk_drew ?_ | refine blk_alloc ?_ _)); refine blk_put (cs := #[.slice bg T.length bh, .slice aW ab.length aX]) ?_ 0 _ rfl; exact bf J.out⟩, ⟨bs HB.out⟩⟩
       ·rw [if_neg bo] at H
        have dK : decide (aH < 0) = false := decide_eq_false bo
        clear bo
        have H' := am H
        clear H
        have fe := av.out
        have ff := au.out
        have fg := ao.out
        have fh := an.out
        have fi := aK.out
        have fj := aM.out
        obtain ⟨fk, fl⟩ := bc2 (w := wc) J.out
        have fm := blk_frozen J.out
        have fo := aC.out
        have fp := aA.out
        have fq := aE.out
        have fr := aD.out
        obtain ⟨fs, ft⟩ := bc2 (w := wc) O.out
        have fu := blk_frozen O.out
        obtain ⟨dN, dO, dP⟩ := Kd.R_slice L.out
        subst dP
        obtain ⟨dQ, dR, dS⟩ := Kd.R_slice M.out
        subst dS
        go_wp2_with (first | (go_at_call 62; (with_reducible refine (spec_l2At.calls ax _ _ T _ _ ab ap aq aH _ ?af ?ag ?ah ?ay bn.out).mono ?_); (case af => exact cr L); (case ag => exact cc L); (case ah => exact cr M); (case ay => exact cc M); rintro e da ⟨rfl, hb⟩; replace L := rb L hb; replace M := rb M hb; replace D := bb D hb rfl; replace I := bb I hb rfl; replace J := bb J hb rfl; replace O := bb O hb rfl; replace HB := hs HB hb; (try clear hb)))
        repeat (go_quiet (first | (go_at_call 62; (with_reducible refine (spec_l2At.calls ax _ _ T _ _ ab ap aq aH _ ?af ?ag ?ah ?ay bn.out).mono ?_); (case af => exact cr L); (case ag => exact cc L); (case ah => exact cr M); (case ay => exact cc M); rintro e da ⟨rfl, hb⟩; replace L := rb L hb; replace M := rb M hb; replace D := bb D hb rfl; replace I := bb I hb rfl; replace J := bb J hb rfl; replace O := bb O hb rfl; replace HB := hs HB hb; (try clear hb))); try go_wp2_with (first | (go_at_call 62; (with_reducible refine (spec_l2At.calls ax _ _ T _ _ ab ap aq aH _ ?af ?ag ?ah ?ay bn.out).mono ?_); (case af => exact cr L); (case ag => exact cc L); (case ah => exact cr M); (case ay => exact cc M); rintro e da ⟨rfl, hb⟩; replace L := rb L hb; replace M := rb M hb; replace D := bb D hb rfl; replace I := bb I hb rfl; replace J := bb J hb rfl; replace O := bb O hb rfl; replace HB := hs HB hb; (try clear hb))))
        go_roundg ax
        case measure => have := aI.out; have := bS.out; omega
        case rel => exact ⟨(wrap64 (y + 1)), (T), (ab), (.slice dN T.length dO), (.slice dQ ab.length dR), eqs, H', ⟨by have := aI.out; have := bS.out; omega⟩, ⟨by (with_reducible repeat (first | apply Kd.R_alloc | apply Kd.R_drewN | apply Kd.R_drew)); exact Kd.R_mono L.out (fun _ hk => hk.1)⟩, ⟨rl M.out⟩, ⟨bf D.out⟩, ⟨bf I.out⟩, ⟨bf J.out⟩, ⟨bs HB.out⟩⟩
    ·rw [if_neg bw] at H
     exact absurd H (by simp)
   ·rw [if_neg c9] at H
    have cD : decide (y < (z.length : Int)) = false := decide_eq_false c9
    clear c9
    obtain ⟨bi, ch⟩ : ∃ y_ : List (S36), y_ = (([] : List (S36))) := ⟨_, rfl⟩
    replace H : (if bi.length + T.length < 8796093022208 then (some (bi ++ T)) else (none)) = some r := by first | (rw [ch]; exact H) | exact H
    have bv := am ch
    clear ch
    by_cases bV : bi.length + T.length < 8796093022208
    ·rw [if_pos bV] at H
     have ci := am bV
     clear bV
     obtain ⟨dT, cj⟩ : ∃ y_ : List (S36), y_ = (bi ++ T) := ⟨_, rfl⟩
     replace H : (some dT) = some r := by first | (rw [cj]; exact H) | exact H
     have ck := am cj
     clear cj
     obtain rfl := Option.some.inj H
     have fv := ba.out
     have fw := bc.out
     have fx := au.out
     have fy := av.out
     obtain ⟨fz, fA⟩ := bc2 (w := wr) D.out
     have fB := blk_frozen D.out
     go_wp2_with (first | ((with_reducible refine gd 46 rfl ?_); refine Kd.R_lit k36 _ 36 ?hg (N := 46) ?hd (xs := ([] : List (S36))) (inner := []) (ok := fun _ => True) (okp := fun _ => True) ?hr ?hp (fun _ hk => hk) trivial (Below.refl _ _) (Nat.le_refl _) (by simp) ?_; (case hd => rfl); (case hg => rfl); (case hr => first | (go_simp; done) | (go_simp; rfl)); (case hp => exact (Reps.none _ _)); intro bD bE ad hb hg_ hnew_; clear hg_ hnew_; (first | rw [← bv.out] at ad | (simp only [Int.reduceToNat] at ad; rw [← bv.out] at ad)); replace M := rb M hb; have ae := am (Kd.R_lower (Kd.R_newB (Kd.R_new' ad (rk L)) (g := aa) (o := .cells #[.int .i64 X, .int .i64 Y] 36 (0, 0)) (bf I.out)) (below_size (bs HB.out))); replace L := re L ad hb; replace D := bb D hb rfl; replace I := bb I hb rfl; replace J := bb J hb rfl; replace HB := hs HB hb; clear hb ad; have db := ao.out; have dc := an.out; obtain ⟨dd, de⟩ := bc2 (w := bE) J.out; have df := blk_frozen J.out; obtain ⟨bF, bG, bH⟩ := Kd.R_slice L.out; subst bH) | ((with_reducible refine gate_builtin (b := .append) (xs := #[.tmp 46, .tmp 48]) rfl ?_); at_builtin; refine Kd.R_append_rows k36 (w0 := w) w.heap.size rfl (.tmp 46) (.tmp 48) 29 36 (.agg #[(.int .i64 0), (.int .i64 0)]) 16 rfl Try.underlying29 info36 rfl (by decide) (by omega) bD bi T _ _ _ (fun k_ => some k_ ≠ (.slice bF T.length bG : Value).ownBlock ∧ k_ ≠ aa) (fun _ => False) rfl rfl ?aO ?aR (fun _ _ h => h) (fun _ h => h.elim) ?aF ?aB ?aS ?aL ?_; (case aR => exact cr L); (case aB => exact (bs HB.out)); (case aF => exact (fun k_ hk => ⟨Kd.fresh' (rk L) k_ hk, Kd.freshB (g := aa) (o := .cells #[.int .i64 X, .int .i64 Y] 36 (0, 0)) (bf I.out) k_ hk⟩)); (case aO => exact (by (with_reducible repeat (first | apply Kd.R_alloc | apply Kd.R_drewN | apply Kd.R_drew)); exact Kd.R_mono ae.out (fun _ hk => ⟨hk.1.2, hk.2⟩))); (case aS => exact (below_size (bs HB.out))); (case aL => have := ci.out; omega); intro dg dh ho hb hg hat; rw [← ck.out] at ho; replace L := am (Kd.R_after (ok := (fun k_ => k_ ≠ aa)) (rl L.out) hg hat); replace M := am (Kd.R_over' (rl M.out) (Kd.R_typed (rl ae.out)) (by decide) hg); replace D := gr D ae hg; replace I := am (blk_grown (g := aa) (o := .cells #[.int .i64 X, .int .i64 Y] 36 (0, 0)) (bf I.out) hg (Kd.R_away ae.out (fun _ hk => hk.2))); replace J := gr J ae hg; replace HB := am hb; have cl := am ho; clear ae; clear ho hb hg hat))
     repeat (go_quiet (first | ((with_reducible refine gd 46 rfl ?_); refine Kd.R_lit k36 _ 36 ?hg (N := 46) ?hd (xs := ([] : List (S36))) (inner := []) (ok := fun _ => True) (okp := fun _ => True) ?hr ?hp (fun _ hk => hk) trivial (Below.refl _ _) (Nat.le_refl _) (by simp) ?_; (case hd => rfl); (case hg => rfl); (case hr => first | (go_simp; done) | (go_simp; rfl)); (case hp => exact (Reps.none _ _)); intro bD bE ad hb hg_ hnew_; clear hg_ hnew_; (first | rw [← bv.out] at ad | (simp only [Int.reduceToNat] at ad; rw [← bv.out] at ad)); replace M := rb M hb; have ae := am (Kd.R_lower (Kd.R_newB (Kd.R_new' ad (rk L)) (g := aa) (o := .cells #[.int .i64 X, .int .i64 Y] 36 (0, 0)) (bf I.out)) (below_size (bs HB.out))); replace L := re L ad hb; replace D := bb D hb rfl; replace I := bb I hb rfl; replace J := bb J hb rfl; replace HB := hs HB hb; clear hb ad; have db := ao.out; have dc := an.out; obtain ⟨dd, de⟩ := bc2 (w := bE) J.out; have df := blk_frozen J.out; obtain ⟨bF, bG, bH⟩ := Kd.R_slice L.out; subst bH) | ((with_reducible refine gate_builtin (b := .append) (xs := #[.tmp 46, .tmp 48]) rfl ?_); at_builtin; refine Kd.R_append_rows k36 (w0 := w) w.heap.size rfl (.tmp 46) (.tmp 48) 29 36 (.agg #[(.int .i64 0), (.int .i64 0)]) 16 rfl Try.underlying29 info36 rfl (by decide) (by omega) bD bi T _ _ _ (fun k_ => some k_ ≠ (.slice bF T.length bG : Value).ownBlock ∧ k_ ≠ aa) (fun _ => False) rfl rfl ?aO ?aR (fun _ _ h => h) (fun _ h => h.elim) ?aF ?aB ?aS ?aL ?_; (case aR => exact cr L); (case aB => exact (bs HB.out)); (case aF => exact (fun k_ hk => ⟨Kd.fresh' (rk L) k_ hk, Kd.freshB (g := aa) (o := .cells #[.int .i64 X, .int .i64 Y] 36 (0, 0)) (bf I.out) k_ hk⟩)); (case aO => exact (by (with_reducible repeat (first | apply Kd.R_alloc | apply Kd.R_drewN | apply Kd.R_drew)); exact Kd.R_mono ae.out (fun _ hk => ⟨hk.1.2, hk.2⟩))); (case aS => exact (below_size (bs HB.out))); (case aL => have := ci.out; omega); intro dg dh ho hb hg hat; rw [← ck.out] at ho; replace L := am (Kd.R_after (ok := (fun k_ => k_ ≠ aa)) (rl L.out) hg hat); replace M := am (Kd.R_over' (rl M.out) (Kd.R_typed (rl ae.out)) (by decide) hg); replace D := gr D ae hg; replace I := am (blk_grown (g := aa) (o := .cells #[.int .i64 X, .int .i64 Y] 36 (0, 0)) (bf I.out) hg (Kd.R_away ae.out (fun _ hk => hk.2))); replace J := gr J ae hg; replace HB := am hb; have cl := am ho; clear ae; clear ho hb hg hat)); try go_wp2_with (first | ((with_reducible refine gd 46 rfl ?_); refine Kd.R_lit k36 _ 36 ?hg (N := 46) ?hd (xs := ([] : List (S36))) (inner := []) (ok := fun _ => True) (okp := fun _ => True) ?hr ?hp (fun _ hk => hk) trivial (Below.refl _ _) (Nat.le_refl _) (by simp) ?_; (case hd => rfl); (case hg => rfl); (case hr => first | (go_simp; done) | (go_simp; rfl)); (case hp => exact (Reps.none _ _)); intro bD bE ad hb hg_ hnew_; clear hg_ hnew_; (first | rw [← bv.out] at ad | (simp only [Int.reduceToNat] at ad; rw [← bv.out] at ad)); replace M := rb M hb; have ae := am (Kd.R_lower (Kd.R_newB (Kd.R_new' ad (rk L)) (g := aa) (o := .cells #[.int .i64 X, .int .i64 Y] 36 (0, 0)) (bf I.out)) (below_size (bs HB.out))); replace L := re L ad hb; replace D := bb D hb rfl; replace I := bb I hb rfl; replace J := bb J hb rfl; replace HB := hs HB hb; clear hb ad; have db := ao.out; have dc := an.out; obtain ⟨dd, de⟩ := bc2 (w := bE) J.out; have df := blk_frozen J.out; obtain ⟨bF, bG, bH⟩ := Kd.R_slice L.out; subst bH) | ((with_reducible refine gate_builtin (b := .append) (xs := #[.tmp 46, .tmp 48]) rfl ?_); at_builtin; refine Kd.R_append_rows k36 (w0 := w) w.heap.size rfl (.tmp 46) (.tmp 48) 29 36 (.agg #[(.int .i64 0), (.int .i64 0)]) 16 rfl Try.underlying29 info36 rfl (by decide) (by omega) bD bi T _ _ _ (fun k_ => some k_ ≠ (.slice bF T.length bG : Value).ownBlock ∧ k_ ≠ aa) (fun _ => False) rfl rfl ?aO ?aR (fun _ _ h => h) (fun _ h => h.elim) ?aF ?aB ?aS ?aL ?_; (case aR => exact cr L); (case aB => exact (bs HB.out)); (case aF => exact (fun k_ hk => ⟨Kd.fresh' (rk L) k_ hk, Kd.freshB (g := aa) (o := .cells #[.int .i64 X, .int .i64 Y] 36 (0, 0)) (bf I.out) k_ hk⟩)); (case aO => exact (by (with_reducible repeat (first | apply Kd.R_alloc | apply Kd.R_drewN | apply Kd.R_drew)); exact Kd.R_mono ae.out (fun _ hk => ⟨hk.1.2, hk.2⟩))); (case aS => exact (below_size (bs HB.out))); (case aL => have := ci.out; omega); intro dg dh ho hb hg hat; rw [← ck.out] at ho; replace L := am (Kd.R_after (ok := (fun k_ => k_ ≠ aa)) (rl L.out) hg hat); replace M := am (Kd.R_over' (rl M.out) (Kd.R_typed (rl ae.out)) (by decide) hg); replace D := gr D ae hg; replace I := am (blk_grown (g := aa) (o := .cells #[.int .i64 X, .int .i64 Y] 36 (0, 0)) (bf I.out) hg (Kd.R_away ae.out (fun _ hk => hk.2))); replace J := gr J ae hg; replace HB := am hb; have cl := am ho; clear ae; clear ho hb hg hat)))
     go_ret
     exact ⟨_, eqr, by (with_reducible repeat (first | apply Kd.R_alloc | apply Kd.R_drewN | apply Kd.R_drew)); exact Kd.R_mono cl.out (fun _ hk => trivial), bs HB.out⟩
    ·rw [if_neg bV] at H
     exact absurd H (by simp)

/-! ### spec_l3Joined: function 107 -/
def spec_l3Joined.l0 : Nat → List (S36) → Int → Int → Int → Option (Bool)
 | 0, _, _, _, _ => none
 | k + 1, y, s, z, D => if s < (y.length : Int) then (if 0 ≤ s then (if (((rd_T36 y s).f0) == z && (((rd_T36 y s).f1) == D)) = true then (some true) else (spec_l3Joined.l0 k y (wrap64 (s + 1)) z D)) else (none)) else (some false)
def spec_l3Joined.f (k : Nat) (s : List (S36)) (y : List (S56)) (z : Int) (D : Int) (G : Int) (I : Int) : Option (Bool) := (spec_l2Near.f k s y z D).bind fun J => (spec_l3Joined.l0 k J 0 G I)
theorem spec_l3Joined.calls (k : Nat) (aj : Option Addr) (ak : Nat) (M : List (S36)) (al : Option Addr) (an : Nat) (O : List (S56)) (T : Int) (X : Int) (I : Int) (J : Int) (r : Bool) (w : World) (aT : Kd.C k36 w aj M.length M) (aU : M.length ≤ ak) (aV : Kd.C k56 w al O.length O) (aW : O.length ≤ an) (h : spec_l3Joined.f k M O T X I J = some r) :
  Calls Try.prog 107 #[.agg #[.slice aj M.length ak, .slice al O.length an], .agg #[.int .i64 T, .int .i64 X], .agg #[.int .i64 I, .int .i64 J]] w fun e w' => e = .returned (.bool r) ∧ Below w.heap.size w w' := by
 have hu34 := Try.underlying34
 have hu36 := Try.underlying36
 have az := am aT
 have aA := am aU
 clear aT aU
 have aC := am aV
 have aD := am aW
 clear aV aW
 have HB := am (Below.refl w.heap.size w)
 have H := h; unfold spec_l3Joined.f at H
 clear h
 replace H := Option.bind_eq_some_iff.mp H
 obtain ⟨G, aX, H⟩ := H
 try dsimp -simprocs only at H
 have A4 := am aX
 clear aX
 have H' := am H
 clear H
 go_enter Try.func107, Try.ntmps107
 go_wp2_with (first | ((with_reducible refine gd 3 rfl ?_); refine bx 3 (cs := #[.slice aj M.length ak, .slice al O.length an]) (t := 34) ?_; intro aE hg w5 hbox hb; have s := am hbox; have aY := gwb HB hg; replace HB := hs HB hb; clear hb hbox hg) | ((with_reducible refine gd 4 rfl ?_); refine bx 4 (cs := #[.int .i64 T, .int .i64 X]) (t := 36) ?_; intro ab hg w6 hbox hb; have z := am hbox; have aZ := gwb HB hg; replace HB := hs HB hb; have aq := nq s hg; have ar := nq' s hg; replace s := bb s hb rfl; clear hb hbox hg) | ((with_reducible refine gd 5 rfl ?_); refine bx 5 (cs := #[.int .i64 I, .int .i64 J]) (t := 36) ?_; intro ac hg Z hbox hb; have L := am hbox; have a6 := gwb HB hg; replace HB := hs HB hb; have ad := nq s hg; have ae := nq' s hg; replace s := bb s hb rfl; have af := nq z hg; have ag := nq' z hg; replace z := bb z hb rfl; clear hb hbox hg; have a7 := aq.out; have a8 := ar.out; have a9 := ad.out; have ba := ae.out; obtain ⟨aG, aH⟩ := bc2 (w := Z) s.out; have aI := blk_frozen s.out; have bc := af.out; have be := ag.out; obtain ⟨aJ, aK⟩ := bc2 (w := Z) z.out; have aM := blk_frozen z.out) | (go_at_call 64; (with_reducible refine (spec_l2Near.calls k _ _ M _ _ O T X G _ ?au ?av ?aw ?ax A4.out).mono ?_); (case au => exact Kd.C_below az.out (bs HB.out)); (case av => exact aA.out); (case aw => exact Kd.C_below aC.out (bs HB.out)); (case ax => exact aD.out); rintro e bg ⟨aN, rfl, aa, hb⟩; have aP := am (Kd.R_lower (Kd.R_newB (Kd.R_newB aa (g := ab) (o := .cells #[.int .i64 T, .int .i64 X] 36 (0, 0)) (bf z.out)) (g := ac) (o := .cells #[.int .i64 I, .int .i64 J] 36 (0, 0)) (bf L.out)) (below_size (bs HB.out))); replace s := bb s hb rfl; replace z := bb z hb rfl; replace L := bb L hb rfl; replace HB := hs HB hb; (try clear aa hb)))
 repeat (go_quiet (first | ((with_reducible refine gd 3 rfl ?_); refine bx 3 (cs := #[.slice aj M.length ak, .slice al O.length an]) (t := 34) ?_; intro aE hg w5 hbox hb; have s := am hbox; have aY := gwb HB hg; replace HB := hs HB hb; clear hb hbox hg) | ((with_reducible refine gd 4 rfl ?_); refine bx 4 (cs := #[.int .i64 T, .int .i64 X]) (t := 36) ?_; intro ab hg w6 hbox hb; have z := am hbox; have aZ := gwb HB hg; replace HB := hs HB hb; have aq := nq s hg; have ar := nq' s hg; replace s := bb s hb rfl; clear hb hbox hg) | ((with_reducible refine gd 5 rfl ?_); refine bx 5 (cs := #[.int .i64 I, .int .i64 J]) (t := 36) ?_; intro ac hg Z hbox hb; have L := am hbox; have a6 := gwb HB hg; replace HB := hs HB hb; have ad := nq s hg; have ae := nq' s hg; replace s := bb s hb rfl; have af := nq z hg; have ag := nq' z hg; replace z := bb z hb rfl; clear hb hbox hg; have a7 := aq.out; have a8 := ar.out; have a9 := ad.out; have ba := ae.out; obtain ⟨aG, aH⟩ := bc2 (w := Z) s.out; have aI := blk_frozen s.out; have bc := af.out; have be := ag.out; obtain ⟨aJ, aK⟩ := bc2 (w := Z) z.out; have aM := blk_frozen z.out) | (go_at_call 64; (with_reducible refine (spec_l2Near.calls k _ _ M _ _ O T X G _ ?au ?av ?aw ?ax A4.out).mono ?_); (case au => exact Kd.C_below az.out (bs HB.out)); (case av => exact aA.out); (case aw => exact Kd.C_below aC.out (bs HB.out)); (case ax => exact aD.out); rintro e bg ⟨aN, rfl, aa, hb⟩; have aP := am (Kd.R_lower (Kd.R_newB (Kd.R_newB aa (g := ab) (o := .cells #[.int .i64 T, .int .i64 X] 36 (0, 0)) (bf z.out)) (g := ac) (o := .cells #[.int .i64 I, .int .i64 J] 36 (0, 0)) (bf L.out)) (below_size (bs HB.out))); replace s := bb s hb rfl; replace z := bb z hb rfl; replace L := bb L hb rfl; replace HB := hs HB hb; (try clear aa hb))); try go_wp2_with (first | ((with_reducible refine gd 3 rfl ?_); refine bx 3 (cs := #[.slice aj M.length ak, .slice al O.length an]) (t := 34) ?_; intro aE hg w5 hbox hb; have s := am hbox; have aY := gwb HB hg; replace HB := hs HB hb; clear hb hbox hg) | ((with_reducible refine gd 4 rfl ?_); refine bx 4 (cs := #[.int .i64 T, .int .i64 X]) (t := 36) ?_; intro ab hg w6 hbox hb; have z := am hbox; have aZ := gwb HB hg; replace HB := hs HB hb; have aq := nq s hg; have ar := nq' s hg; replace s := bb s hb rfl; clear hb hbox hg) | ((with_reducible refine gd 5 rfl ?_); refine bx 5 (cs := #[.int .i64 I, .int .i64 J]) (t := 36) ?_; intro ac hg Z hbox hb; have L := am hbox; have a6 := gwb HB hg; replace HB := hs HB hb; have ad := nq s hg; have ae := nq' s hg; replace s := bb s hb rfl; have af := nq z hg; have ag := nq' z hg; replace z := bb z hb rfl; clear hb hbox hg; have a7 := aq.out; have a8 := ar.out; have a9 := ad.out; have ba := ae.out; obtain ⟨aG, aH⟩ := bc2 (w := Z) s.out; have aI := blk_frozen s.out; have bc := af.out; have be := ag.out; obtain ⟨aJ, aK⟩ := bc2 (w := Z) z.out; have aM := blk_frozen z.out) | (go_at_call 64; (with_reducible refine (spec_l2Near.calls k _ _ M _ _ O T X G _ ?au ?av ?aw ?ax A4.out).mono ?_); (case au => exact Kd.C_below az.out (bs HB.out)); (case av => exact aA.out); (case aw => exact Kd.C_below aC.out (bs HB.out)); (case ax => exact aD.out); rintro e bg ⟨aN, rfl, aa, hb⟩; have aP := am (Kd.R_lower (Kd.R_newB (Kd.R_newB aa (g := ab) (o := .cells #[.int .i64 T, .int .i64 X] 36 (0, 0)) (bf z.out)) (g := ac) (o := .cells #[.int .i64 I, .int .i64 J] 36 (0, 0)) (bf L.out)) (below_size (bs HB.out))); replace s := bb s hb rfl; replace z := bb z hb rfl; replace L := bb L hb rfl; replace HB := hs HB hb; (try clear aa hb))))
 go_loopg [8] k (fun kq v8 w' => ∃ (D : Int), v8 = .int .i64 D ∧ Aside0 (spec_l3Joined.l0 kq G D I J = some r) ∧ Aside0 (kq ≤ k) ∧ Aside0 (Kd.R k36 36 w' w.heap.size (fun k_ => k_ ≠ ab ∧ k_ ≠ ac) aN G) ∧ Aside0 (w'.heap[aE]? = some (.cells #[(.slice aj M.length ak), (.slice al O.length an)] 34 (0, 0))) ∧ Aside0 (w'.heap[ab]? = some (.cells #[.int .i64 T, .int .i64 X] 36 (0, 0))) ∧ Aside0 (w'.heap[ac]? = some (.cells #[.int .i64 I, .int .i64 J] 36 (0, 0))) ∧ Aside0 (Below w.heap.size w w'))
 case atStart => exact ⟨(0), eqs, H', ⟨Nat.le_refl _⟩, ⟨by (with_reducible repeat (first | apply Kd.R_alloc | apply Kd.R_drewN | apply Kd.R_drew)); exact Kd.R_mono aP.out (fun _ hk => ⟨hk.1.2, hk.2⟩)⟩, ⟨bf s.out⟩, ⟨bf z.out⟩, ⟨bf L.out⟩, ⟨bs HB.out⟩⟩
 case round =>
  clear H'
  try clear c1
  try clear p2
  try clear c8
  try clear c9
  try clear bv
  try clear bw
  try clear aG aH
  try clear aJ aK
  try clear aI
  try clear aM
  obtain ⟨D, rfl, HA, bh, ao, s, z, L, HB⟩ := hrel
  cases gk with
  | zero => exact absurd HA.out (by simp [spec_l3Joined.l0])
  | succ k1 =>
   have H := HA.out
   clear HA
   simp only [spec_l3Joined.l0] at H
   by_cases ap : D < (G.length : Int)
   ·rw [if_pos ap] at H
    have bi : decide (D < (G.length : Int)) = true := decide_eq_true ap
    clear ap
    by_cases ay : 0 ≤ D
    ·rw [if_pos ay] at H
     have bz : decide (0 ≤ D) = true := decide_eq_true ay
     clear ay
     by_cases Y : (((rd_T36 G D).f0) == I && (((rd_T36 G D).f1) == J)) = true
     ·rw [if_pos Y] at H
      have bj : (((rd_T36 G D).f0) == I && (((rd_T36 G D).f1) == J)) = true := Y
      (try (have bk : decide (((rd_T36 G D).f0) = I && (((rd_T36 G D).f1) == J)) = true := by simpa using Y))
      (try (have bl : (((rd_T36 G D).f0) == I && (((rd_T36 G D).f1) == J)) = true := by simpa using Y))
      clear Y
      obtain rfl := Option.some.inj H
      obtain ⟨bA, bB, bm⟩ := Kd.R_slice ao.out
      subst bm
      have ah : 0 ≤ (D : Int) := oda
      have ai : D < (G.length : Int) := oda
      obtain ⟨bn, aQ, bo, br⟩ := at_T36 (Kd.R_reads' ao.out).2.2 D ah ai
      cases aQ
      replace ah := eq_true ah
      replace ai := eq_true ai
      have bC := ae.out
      have bD := ad.out
      have bE := ag.out
      have bF := af.out
      obtain ⟨bG, bH⟩ := bc2 (w := wr) L.out
      have bI := blk_frozen L.out
      go_wp2
      repeat (go_quiet (fail); try go_wp2)
      go_ret
      exact ⟨eqr, bs HB.out⟩
     ·rw [if_neg Y] at H
      have bj : (((rd_T36 G D).f0) == I && (((rd_T36 G D).f1) == J)) = false := by simpa using Y
      (try (have bk : decide (((rd_T36 G D).f0) = I && (((rd_T36 G D).f1) == J)) = false := by simpa using Y))
      (try (have bl : (((rd_T36 G D).f0) == I && (((rd_T36 G D).f1) == J)) = false := by simpa using Y))
      (try (have bJ : ¬ (((rd_T36 G D).f0) = I && (((rd_T36 G D).f1) == J)) := by simpa using Y))
      clear Y
      have H' := am H
      clear H
      obtain ⟨bK, bL, bt⟩ := Kd.R_slice ao.out
      subst bt
      have ah : 0 ≤ (D : Int) := oda
      have ai : D < (G.length : Int) := oda
      obtain ⟨bn, aQ, bo, br⟩ := at_T36 (Kd.R_reads' ao.out).2.2 D ah ai
      cases aQ
      replace ah := eq_true ah
      replace ai := eq_true ai
      have bM := ae.out
      have bN := ad.out
      have bO := ag.out
      have bP := af.out
      obtain ⟨bQ, bR⟩ := bc2 (w := wr) L.out
      have bS := blk_frozen L.out
      go_wp2
      repeat (go_quiet (fail); try go_wp2)
      go_roundg k1
      case measure => have := bh.out; omega
      case rel => exact ⟨(wrap64 (D + 1)), eqs, H', ⟨by have := bh.out; omega⟩, ⟨rl ao.out⟩, ⟨bf s.out⟩, ⟨bf z.out⟩, ⟨bf L.out⟩, ⟨bs HB.out⟩⟩
    ·rw [if_neg ay] at H
     exact absurd H (by simp)
   ·rw [if_neg ap] at H
    have bi : decide (D < (G.length : Int)) = false := decide_eq_false ap
    clear ap
    obtain rfl := Option.some.inj H
    obtain ⟨bT, bU, bu⟩ := Kd.R_slice ao.out
    subst bu
    go_wp2
    repeat (go_quiet (fail); try go_wp2)
    go_ret
    exact ⟨eqr, bs HB.out⟩

end Go.Proofs.Ytohmemckdogljaa.QFnExactWalkThrees
