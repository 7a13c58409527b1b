/- Contracts of the Go functions that this law reaches: each does what its plain Lean function says. No condition. -/
import Derived.Test.YtohmemckdogljaaQFnExactWalkCorex0
import Derived.Test.YtohmemckdogljaaQFnExactWalkCorex1
import Derived.Test.YtohmemckdogljaaQFnExactWalkCorex4
import Derived.Test.YtohmemckdogljaaQFnExactWalkCorex6
namespace Go.Proofs.Ytohmemckdogljaa.QFnExactWalkCore
open Go.RowKit Go.Proofs.YtohmemckdogljaaW.PrintWords Go.Proofs.YtohmemckdogljaaW.PrintLast Go.Proofs.YtohmemckdogljaaW.PrintMore Go.Proofs.Ytohmemckdogljaa.Bl
attribute [local go_sem] max2_int min2_int max_two min_two max_three min_three max_four min_four   -- for this text's walks alone
set_option linter.unusedVariables false
set_option linter.unusedSimpArgs false
set_option maxHeartbeats 8000000
set_option maxRecDepth 100000

attribute [local go_sem high] eqA36
/-! ### spec_l2Near: function 64 -/
mutual
def spec_l2Near.l0 : Nat → Int → List (S36) → List (S56) → Int → Int → List (S36) → List (S56) → Option ((List (S36)))
 | 0, _, _, _, _, _, _, _ => none
 | k + 1, s, I, y, z, D, G, J => if s < (y.length : Int) then (if 0 ≤ s then (if (((rd_T56 y s).f1.f0) == z && (((rd_T56 y s).f1.f1) == D)) = true then (spec_l2Near.j1 k s I y z D G J ((rd_T56 y s).f2.f0) ((rd_T56 y s).f2.f1)) else (if (!(((rd_T56 y s).f2.f0) == z) || (!(((rd_T56 y s).f2.f1) == D))) = true then (spec_l2Near.l0 k (wrap64 (s + 1)) I y z D G J) else (spec_l2Near.j1 k s I y z D G J ((rd_T56 y s).f1.f0) ((rd_T56 y s).f1.f1)))) else (none)) else ((some (([] : List (S36)) : List (S36))).bind fun L => (if L.length + G.length < 8796093022208 then (some (L ++ G)) else (none)))
def spec_l2Near.j1 : Nat → Int → List (S36) → List (S56) → Int → Int → List (S36) → List (S56) → Int → Int → Option ((List (S36)))
 | 0, _, _, _, _, _, _, _, _, _ => none
 | k + 1, z, D, G, I, J, s, y, L, M => (spec_l2At.f k s y L M).bind fun T => (if T < 0 then ((spec_l2PutNode.f k s y L M).bind fun O => (spec_l2Near.l0 k (wrap64 (z + 1)) D G I J O.1 O.2)) else (spec_l2Near.l0 k (wrap64 (z + 1)) D G I J s y))
end
def spec_l2Near.f (k : Nat) (s : List (S36)) (y : List (S56)) (z : Int) (D : Int) : Option ((List (S36))) := spec_l2Near.l0 k 0 s y z D ([] : List (S36)) ([] : List (S56))
theorem spec_l2Near.calls (k : Nat) (a6 : Option Addr) (a7 : Nat) (ar : List (S36)) (bi : Option Addr) (a8 : Nat) (z : List (S56)) (X : Int) (Y : Int) (r : List (S36)) (w : World) (cl : Kd.C k36 w a6 ar.length ar) (cm : ar.length ≤ a7) (cn : Kd.C k56 w bi z.length z) (co : z.length ≤ a8) (h : spec_l2Near.f k ar z X Y = some r) :
  Calls Try.prog 64 #[.agg #[.slice a6 ar.length a7, .slice bi z.length a8], .agg #[.int .i64 X, .int .i64 Y]] w fun e w' => ∃ cp : Value, e = .returned (cp) ∧ Kd.R k36 36 w' w.heap.size (fun _ => True) cp r ∧ Below w.heap.size w w' := by
 have hu34 := Try.underlying34
 have hu36 := Try.underlying36
 have dS := am cl
 have dT := am cm
 clear cl cm
 have bH := am cn
 have dU := am co
 clear cn co
 have HB := am (Below.refl w.heap.size w)
 have H := h; unfold spec_l2Near.f at H
 clear h
 have H' := am H
 clear H
 go_enter Try.func64, Try.ntmps64
 go_wp2_with (first | ((with_reducible refine gd 2 rfl ?_); refine bx 2 (cs := #[.slice a6 ar.length a7, .slice bi z.length a8]) (t := 34) ?_; intro bI hg w3 hbox hb; have D := am hbox; have ct := gwb HB hg; replace HB := hs HB hb; clear hb hbox hg) | ((with_reducible refine gd 3 rfl ?_); refine bx 3 (cs := #[.int .i64 X, .int .i64 Y]) (t := 36) ?_; intro aa hg w4 hbox hb; have I := am hbox; have cu := gwb HB hg; replace HB := hs HB hb; have a9 := nq D hg; have ba := nq' D hg; replace D := bb D hb rfl; clear hb hbox hg) | ((with_reducible refine gd 5 rfl ?_); refine bx 5 (cs := #[.slice none 0 0, .slice none 0 0]) (t := 34) ?_; intro bJ hg w5 hbox hb; have J := am hbox; have cv := gwb HB hg; replace HB := hs HB hb; have au := nq D hg; have av := nq' D hg; replace D := bb D hb rfl; have an := nq I hg; have ao := nq' I hg; replace I := bb I hb rfl; clear hb hbox hg; have cy := av.out; have cz := au.out; have cA := ao.out; have cB := an.out; obtain ⟨bK, bL⟩ := bc2 (w := w5) J.out; have bM := blk_frozen J.out))
 repeat (go_quiet (first | ((with_reducible refine gd 2 rfl ?_); refine bx 2 (cs := #[.slice a6 ar.length a7, .slice bi z.length a8]) (t := 34) ?_; intro bI hg w3 hbox hb; have D := am hbox; have ct := gwb HB hg; replace HB := hs HB hb; clear hb hbox hg) | ((with_reducible refine gd 3 rfl ?_); refine bx 3 (cs := #[.int .i64 X, .int .i64 Y]) (t := 36) ?_; intro aa hg w4 hbox hb; have I := am hbox; have cu := gwb HB hg; replace HB := hs HB hb; have a9 := nq D hg; have ba := nq' D hg; replace D := bb D hb rfl; clear hb hbox hg) | ((with_reducible refine gd 5 rfl ?_); refine bx 5 (cs := #[.slice none 0 0, .slice none 0 0]) (t := 34) ?_; intro bJ hg w5 hbox hb; have J := am hbox; have cv := gwb HB hg; replace HB := hs HB hb; have au := nq D hg; have av := nq' D hg; replace D := bb D hb rfl; have an := nq I hg; have ao := nq' I hg; replace I := bb I hb rfl; clear hb hbox hg; have cy := av.out; have cz := au.out; have cA := ao.out; have cB := an.out; obtain ⟨bK, bL⟩ := bc2 (w := w5) J.out; have bM := blk_frozen J.out)); try go_wp2_with (first | ((with_reducible refine gd 2 rfl ?_); refine bx 2 (cs := #[.slice a6 ar.length a7, .slice bi z.length a8]) (t := 34) ?_; intro bI hg w3 hbox hb; have D := am hbox; have ct := gwb HB hg; replace HB := hs HB hb; clear hb hbox hg) | ((with_reducible refine gd 3 rfl ?_); refine bx 3 (cs := #[.int .i64 X, .int .i64 Y]) (t := 36) ?_; intro aa hg w4 hbox hb; have I := am hbox; have cu := gwb HB hg; replace HB := hs HB hb; have a9 := nq D hg; have ba := nq' D hg; replace D := bb D hb rfl; clear hb hbox hg) | ((with_reducible refine gd 5 rfl ?_); refine bx 5 (cs := #[.slice none 0 0, .slice none 0 0]) (t := 34) ?_; intro bJ hg w5 hbox hb; have J := am hbox; have cv := gwb HB hg; replace HB := hs HB hb; have au := nq D hg; have av := nq' D hg; replace D := bb D hb rfl; have an := nq I hg; have ao := nq' I hg; replace I := bb I hb rfl; clear hb hbox hg; have cy := av.out; have cz := au.out; have cA := ao.out; have cB := an.out; obtain ⟨bK, bL⟩ := bc2 (w := w5) J.out; have bM := blk_frozen J.out)))
 go_loopg [6] k (fun kq v6 w' => ∃ (y : Int) (T : List (S36)) (ab : List (S56)) (bj : Value) (bk : Value), v6 = .int .i64 y ∧ Aside0 (spec_l2Near.l0 kq y ar z X Y T ab = some r) ∧ Aside0 (kq ≤ k) ∧ Aside0 (Kd.R k36 36 w' w.heap.size (fun k_ => k_ ≠ aa) bj T) ∧ Aside0 (Kd.R k56 56 w' w.heap.size (fun _ => True) bk ab) ∧ Aside0 (w'.heap[bI]? = some (.cells #[(.slice a6 ar.length a7), (.slice bi z.length a8)] 34 (0, 0))) ∧ Aside0 (w'.heap[aa]? = some (.cells #[.int .i64 X, .int .i64 Y] 36 (0, 0))) ∧ Aside0 (w'.heap[bJ]? = some (.cells #[bj, bk] 34 (0, 0))) ∧ Aside0 (Below w.heap.size w w'))
 case atStart => exact ⟨(0), (([] : List (S36))), (([] : List (S56))), (.slice none 0 0), (.slice none 0 0), eqs, H', ⟨Nat.le_refl _⟩, ⟨by first | exact Kd.R_nil _ _ _ _ _ | exact Kd.N_nil _ _ _ _ _ | exact Kd.V_nil _ _ _ _ _ | exact Kd.Q_nil _ _ _ _ _ | exact Kd.S_nil _ _ _ _ _⟩, ⟨by first | exact Kd.R_nil _ _ _ _ _ | exact Kd.N_nil _ _ _ _ _ | exact Kd.V_nil _ _ _ _ _ | exact Kd.Q_nil _ _ _ _ _ | exact Kd.S_nil _ _ _ _ _⟩, ⟨bf D.out⟩, ⟨bf I.out⟩, ⟨by (with_reducible repeat (first | refine blk_drewN ?_ _ | refine blk_drew ?_ | refine blk_alloc ?_ _)); refine blk_put (cs := #[.slice none 0 0, .slice none 0 0]) ?_ 1 _ rfl; (with_reducible repeat (first | refine blk_drewN ?_ _ | refine blk_drew ?_ | refine blk_alloc ?_ _)); refine blk_put (cs := #[.slice none 0 0, .slice none 0 0]) ?_ 0 _ rfl; exact bf J.out⟩, ⟨bs HB.out⟩⟩
 case round =>
  clear H'
  try clear p2
  try clear c6
  try clear c7
  try clear bK bL
  try clear bM
  obtain ⟨y, T, ab, bj, bk, rfl, HA, aI, L, M, D, I, J, HB⟩ := hrel
  cases gk with
  | zero => exact absurd HA.out (by simp [spec_l2Near.l0])
  | succ k1 =>
   have H := HA.out
   clear HA
   simp only [spec_l2Near.l0] at H
   by_cases c9 : y < (z.length : Int)
   ·rw [if_pos c9] at H
    have cC : decide (y < (z.length : Int)) = true := decide_eq_true c9
    clear c9
    by_cases bv : 0 ≤ y
    ·rw [if_pos bv] at H
     have dg : decide (0 ≤ y) = true := decide_eq_true bv
     clear bv
     have bV := am H
     clear H
     have dV := a9.out
     have dW := ba.out
     have dX := au.out
     have dY := av.out
     obtain ⟨dh, di⟩ := bc2 (w := wr) D.out
     have dj := blk_frozen D.out
     have bN : 0 ≤ (y : Int) := oda
     have bO : y < (z.length : Int) := oda
     obtain ⟨az, dk, bW, bX, bY, bZ, b0⟩ := at_T56 bH.out y bN bO
     cases dk
     replace bW := cb HB bW
     replace bX := cb HB bX
     replace bY := cb HB bY
     replace bZ := cb HB bZ
     replace b0 := cb HB b0
     replace bN := eq_true bN
     replace bO := eq_true bO
     go_upto_if 24 with (first | ((with_reducible refine gd 7 rfl ?_); refine bx 7 (cs := #[.int .i64 0, .int .i64 0]) (t := 36) ?_; intro G hg Z hbox hb; replace L := am (Kd.R_below (Kd.R_elderB (rl L.out) G (Nat.le_of_eq hg.symm)) hb); replace M := rb M hb; have O := am hbox; have aJ := gwb HB hg; replace HB := hs HB hb; have aA := nq D hg; have aC := nq' D hg; replace D := bb D hb rfl; have aD := nq I hg; have aE := nq' I hg; replace I := bb I hb rfl; have aK := nq J hg; have aM := nq' J hg; replace J := bb J hb rfl; clear hb hbox hg; have cD := aC.out; have cE := aA.out; have cF := aE.out; have cG := aD.out; have cH := aM.out; have cI := aK.out; obtain ⟨b1, b2⟩ := bc2 (w := Z) O.out; have b3 := blk_frozen O.out; have cJ := an.out; have cK := ao.out; obtain ⟨b4, b5⟩ := bc2 (w := Z) I.out; have b6 := blk_frozen I.out))
     repeat (go_quiet (first | ((with_reducible refine gd 7 rfl ?_); refine bx 7 (cs := #[.int .i64 0, .int .i64 0]) (t := 36) ?_; intro G hg Z hbox hb; replace L := am (Kd.R_below (Kd.R_elderB (rl L.out) G (Nat.le_of_eq hg.symm)) hb); replace M := rb M hb; have O := am hbox; have aJ := gwb HB hg; replace HB := hs HB hb; have aA := nq D hg; have aC := nq' D hg; replace D := bb D hb rfl; have aD := nq I hg; have aE := nq' I hg; replace I := bb I hb rfl; have aK := nq J hg; have aM := nq' J hg; replace J := bb J hb rfl; clear hb hbox hg; have cD := aC.out; have cE := aA.out; have cF := aE.out; have cG := aD.out; have cH := aM.out; have cI := aK.out; obtain ⟨b1, b2⟩ := bc2 (w := Z) O.out; have b3 := blk_frozen O.out; have cJ := an.out; have cK := ao.out; obtain ⟨b4, b5⟩ := bc2 (w := Z) I.out; have b6 := blk_frozen I.out)); go_upto_if 24 with (first | ((with_reducible refine gd 7 rfl ?_); refine bx 7 (cs := #[.int .i64 0, .int .i64 0]) (t := 36) ?_; intro G hg Z hbox hb; replace L := am (Kd.R_below (Kd.R_elderB (rl L.out) G (Nat.le_of_eq hg.symm)) hb); replace M := rb M hb; have O := am hbox; have aJ := gwb HB hg; replace HB := hs HB hb; have aA := nq D hg; have aC := nq' D hg; replace D := bb D hb rfl; have aD := nq I hg; have aE := nq' I hg; replace I := bb I hb rfl; have aK := nq J hg; have aM := nq' J hg; replace J := bb J hb rfl; clear hb hbox hg; have cD := aC.out; have cE := aA.out; have cF := aE.out; have cG := aD.out; have cH := aM.out; have cI := aK.out; obtain ⟨b1, b2⟩ := bc2 (w := Z) O.out; have b3 := blk_frozen O.out; have cJ := an.out; have cK := ao.out; obtain ⟨b4, b5⟩ := bc2 (w := Z) I.out; have b6 := blk_frozen I.out)))
     (try simp only [Act.put, List.setIfInBounds_toArray, List.set_cons_zero, List.set_cons_succ])
     go_cut [] (fun wc => ∃ (kq : Nat) (ap : Int) (aq : Int), Aside0 (spec_l2Near.j1 kq y ar z X Y T ab ap aq = some r) ∧ Aside0 (kq ≤ k1) ∧ Aside0 (Kd.R k36 36 wc w.heap.size (fun k_ => k_ ≠ aa ∧ k_ ≠ G) bj T) ∧ Aside0 (Kd.R k56 56 wc w.heap.size (fun _ => True) bk ab) ∧ Aside0 (wc.heap[bI]? = some (.cells #[(.slice a6 ar.length a7), (.slice (some az) z.length a8)] 34 (0, 0))) ∧ Aside0 (wc.heap[aa]? = some (.cells #[.int .i64 X, .int .i64 Y] 36 (0, 0))) ∧ Aside0 (wc.heap[bJ]? = some (.cells #[bj, bk] 34 (0, 0))) ∧ Aside0 (wc.heap[G]? = some (.cells #[.int .i64 ap, .int .i64 aq] 36 (0, 0))) ∧ Aside0 (Below w.heap.size w wc))
     case first =>
      have H := bV.out
      clear bV
      by_cases aw : (((rd_T56 z y).f1.f0) == X && (((rd_T56 z y).f1.f1) == Y)) = true
      ·rw [if_pos aw] at H
       have bl : (((rd_T56 z y).f1.f0) == X && (((rd_T56 z y).f1.f1) == Y)) = true := aw
       (try (have cL : decide (((rd_T56 z y).f1.f0) = X && (((rd_T56 z y).f1.f1) == Y)) = true := by simpa using aw))
       (try (have cM : (((rd_T56 z y).f1.f0) == X && (((rd_T56 z y).f1.f1) == Y)) = true := by simpa using aw))
       clear aw
       (first | rw [bl] | (simp only [i64_w, i32_w]; rw [bl]) | skip)
       have H' := am H
       clear H
       have dZ := a9.out
       have d0 := ba.out
       have d1 := au.out
       have d2 := av.out
       have d3 := aA.out
       have d4 := aC.out
       obtain ⟨dl, dm⟩ := bc2 (w := Z) D.out
       have dp := blk_frozen D.out
       have bP : 0 ≤ (y : Int) := oda
       have bQ : y < (z.length : Int) := oda
       obtain ⟨dq, dr, aG, aN, aP, aQ, aT⟩ := at_T56 bH.out y bP bQ
       obtain rfl : az = dq := (by injection dr)
       have hn246_0 : az.block ≠ G := Nat.ne_of_lt (Nat.lt_of_lt_of_le (by have := World.block_lt_of_cell? _ _ aG; first | rwa [add_block] at this | exact this) aJ.out)
       have hn246_1 : az.block ≠ G := Nat.ne_of_lt (Nat.lt_of_lt_of_le (by have := World.block_lt_of_cell? _ _ aG; first | rwa [add_block] at this | exact this) aJ.out)
       replace aG := cb HB aG
       replace aN := cb HB aN
       replace aP := cb HB aP
       replace aQ := cb HB aQ
       replace aT := cb HB aT
       replace aG := (cell_far (p := ⟨G, 0, none⟩) (by first | (rw [add_block]; exact hn246_0) | (show (Addr.add _ _).block ≠ _; rw [add_block]; exact hn246_0) | exact hn246_0) (.int .i64 ((rd_T56 z y).f1.f0))).trans aG
       replace aN := (cell_far (p := ⟨G, 0, none⟩) (by first | (rw [add_block]; exact hn246_0) | (show (Addr.add _ _).block ≠ _; rw [add_block]; exact hn246_0) | exact hn246_0) (.int .i64 ((rd_T56 z y).f1.f0))).trans aN
       replace aP := (cell_far (p := ⟨G, 0, none⟩) (by first | (rw [add_block]; exact hn246_0) | (show (Addr.add _ _).block ≠ _; rw [add_block]; exact hn246_0) | exact hn246_0) (.int .i64 ((rd_T56 z y).f1.f0))).trans aP
       replace aQ := (cell_far (p := ⟨G, 0, none⟩) (by first | (rw [add_block]; exact hn246_0) | (show (Addr.add _ _).block ≠ _; rw [add_block]; exact hn246_0) | exact hn246_0) (.int .i64 ((rd_T56 z y).f1.f0))).trans aQ
       replace aT := (cell_far (p := ⟨G, 0, none⟩) (by first | (rw [add_block]; exact hn246_0) | (show (Addr.add _ _).block ≠ _; rw [add_block]; exact hn246_0) | exact hn246_0) (.int .i64 ((rd_T56 z y).f1.f0))).trans aT
       replace aG := (cell_far (p := ⟨G, 1, none⟩) (by first | (rw [add_block]; exact hn246_1) | (show (Addr.add _ _).block ≠ _; rw [add_block]; exact hn246_1) | exact hn246_1) (.int .i64 ((rd_T56 z y).f1.f1))).trans aG
       replace aN := (cell_far (p := ⟨G, 1, none⟩) (by first | (rw [add_block]; exact hn246_1) | (show (Addr.add _ _).block ≠ _; rw [add_block]; exact hn246_1) | exact hn246_1) (.int .i64 ((rd_T56 z y).f1.f1))).trans aN
       replace aP := (cell_far (p := ⟨G, 1, none⟩) (by first | (rw [add_block]; exact hn246_1) | (show (Addr.add _ _).block ≠ _; rw [add_block]; exact hn246_1) | exact hn246_1) (.int .i64 ((rd_T56 z y).f1.f1))).trans aP
       replace aQ := (cell_far (p := ⟨G, 1, none⟩) (by first | (rw [add_block]; exact hn246_1) | (show (Addr.add _ _).block ≠ _; rw [add_block]; exact hn246_1) | exact hn246_1) (.int .i64 ((rd_T56 z y).f1.f1))).trans aQ
       replace aT := (cell_far (p := ⟨G, 1, none⟩) (by first | (rw [add_block]; exact hn246_1) | (show (Addr.add _ _).block ≠ _; rw [add_block]; exact hn246_1) | exact hn246_1) (.int .i64 ((rd_T56 z y).f1.f1))).trans aT
       (try have hy246_0 := fun (n_ : Nat) => (show ((((Z.drewN n_).setCell ⟨G, 0, none⟩ (.int .i64 ((rd_T56 z y).f1.f0))).setCell ⟨G, 1, none⟩ (.int .i64 ((rd_T56 z y).f1.f1)))).cell? _ = some _ from aG))
       (try have hy246_1 := fun (n_ : Nat) => (show ((((Z.drewN n_).setCell ⟨G, 0, none⟩ (.int .i64 ((rd_T56 z y).f1.f0))).setCell ⟨G, 1, none⟩ (.int .i64 ((rd_T56 z y).f1.f1)))).cell? _ = some _ from aN))
       (try have hy246_2 := fun (n_ : Nat) => (show ((((Z.drewN n_).setCell ⟨G, 0, none⟩ (.int .i64 ((rd_T56 z y).f1.f0))).setCell ⟨G, 1, none⟩ (.int .i64 ((rd_T56 z y).f1.f1)))).cell? _ = some _ from aP))
       (try have hy246_3 := fun (n_ : Nat) => (show ((((Z.drewN n_).setCell ⟨G, 0, none⟩ (.int .i64 ((rd_T56 z y).f1.f0))).setCell ⟨G, 1, none⟩ (.int .i64 ((rd_T56 z y).f1.f1)))).cell? _ = some _ from aQ))
       (try have hy246_4 := fun (n_ : Nat) => (show ((((Z.drewN n_).setCell ⟨G, 0, none⟩ (.int .i64 ((rd_T56 z y).f1.f0))).setCell ⟨G, 1, none⟩ (.int .i64 ((rd_T56 z y).f1.f1)))).cell? _ = some _ from aT))
       clear hn246_0
       clear hn246_1
       replace bP := eq_true bP
       replace bQ := eq_true bQ
       have d5 := aE.out
       have d6 := aD.out
       have d7 := aM.out
       have d8 := aK.out
       obtain ⟨dt, du⟩ := bc2 (w := Z) O.out
       have dv := blk_frozen O.out
       go_wp2
       repeat (go_quiet (fail); try go_wp2)
       go_meet
       case rel => exact ⟨_, ((rd_T56 z y).f2.f0), ((rd_T56 z y).f2.f1), H', ⟨by have := aI.out; first | omega | exact Nat.le_refl _⟩, ⟨by (with_reducible repeat (first | apply Kd.R_alloc | apply Kd.R_drewN | apply Kd.R_drew)); exact Kd.R_mono (Kd.R_far (p := ⟨G, 1, none⟩) (Kd.R_far (p := ⟨G, 0, none⟩) (Kd.R_far (p := ⟨G, 1, none⟩) (Kd.R_far (p := ⟨G, 0, none⟩) (Kd.R_mono L.out (fun k_ hk => (⟨hk, hk.2⟩ : _ ∧ k_ ≠ G))) (fun _ hk => hk.2) (.int .i64 ((rd_T56 z y).f1.f0))) (fun _ hk => hk.2) (.int .i64 ((rd_T56 z y).f1.f1))) (fun _ hk => hk.2) (.int .i64 ((rd_T56 z y).f2.f0))) (fun _ hk => hk.2) (.int .i64 ((rd_T56 z y).f2.f1))) (fun _ hk => ⟨hk.1.1, hk.1.2⟩)⟩, ⟨Kd.R_mono (rt M.out O.out (by decide)) (fun _ hk => trivial)⟩, ⟨bf D.out⟩, ⟨bf I.out⟩, ⟨bf J.out⟩, ⟨by (with_reducible repeat (first | refine blk_drewN ?_ _ | refine blk_drew ?_ | refine blk_alloc ?_ _)); refine blk_put (cs := #[.int .i64 ((rd_T56 z y).f2.f0), .int .i64 ((rd_T56 z y).f1.f1)]) ?_ 1 _ rfl; (with_reducible repeat (first | refine blk_drewN ?_ _ | refine blk_drew ?_ | refine blk_alloc ?_ _)); refine blk_put (cs := #[.int .i64 ((rd_T56 z y).f1.f0), .int .i64 ((rd_T56 z y).f1.f1)]) ?_ 0 _ rfl; (with_reducible repeat (first | refine blk_drewN ?_ _ | refine blk_drew ?_ | refine blk_alloc ?_ _)); refine blk_put (cs := #[.int .i64 ((rd_T56 z y).f1.f0), .int .i64 0]) ?_ 1 _ rfl; (with_reducible repeat (first | refine blk_drewN ?_ _ | refine blk_drew ?_ | refine blk_alloc ?_ _)); refine blk_put (cs := #[.int .i64 0, .int .i64 0]) ?_ 0 _ rfl; exact bf O.out⟩, ⟨bs HB.out⟩⟩
      ·rw [if_neg aw] at H
       have bl : (((rd_T56 z y).f1.f0) == X && (((rd_T56 z y).f1.f1) == Y)) = false := by simpa using aw
       (try (have cL : decide (((rd_T56 z y).f1.f0) = X && (((rd_T56 z y).f1.f1) == Y)) = false := by simpa using aw))
       (try (have cM : (((rd_T56 z y).f1.f0) == X && (((rd_T56 z y).f1.f1) == Y)) = false := by simpa using aw))
       (try (have d9 : ¬ (((rd_T56 z y).f1.f0) = X && (((rd_T56 z y).f1.f1) == Y)) := by simpa using aw))
       clear aw
       (first | rw [bl] | (simp only [i64_w, i32_w]; rw [bl]) | skip)
       by_cases bc : (!(((rd_T56 z y).f2.f0) == X) || (!(((rd_T56 z y).f2.f1) == Y))) = true
       ·rw [if_pos bc] at H
        have cN : (!(((rd_T56 z y).f2.f0) == X) || (!(((rd_T56 z y).f2.f1) == Y))) = true := bc
        clear bc
        have H' := am H
        clear H
        have ea := a9.out
        have eb := ba.out
        have ec := au.out
        have ed := av.out
        have ee := aA.out
        have ef := aC.out
        obtain ⟨dw, dx⟩ := bc2 (w := Z) D.out
        have dy := blk_frozen D.out
        have aU : 0 ≤ (y : Int) := oda
        have aV : y < (z.length : Int) := oda
        obtain ⟨b7, b8, ac, ai, aj, ak, al⟩ := at_T56 bH.out y aU aV
        obtain rfl : az = b7 := (by injection b8)
        have hn247_0 : az.block ≠ G := Nat.ne_of_lt (Nat.lt_of_lt_of_le (by have := World.block_lt_of_cell? _ _ ac; first | rwa [add_block] at this | exact this) aJ.out)
        have hn247_1 : az.block ≠ G := Nat.ne_of_lt (Nat.lt_of_lt_of_le (by have := World.block_lt_of_cell? _ _ ac; first | rwa [add_block] at this | exact this) aJ.out)
        replace ac := cb HB ac
        replace ai := cb HB ai
        replace aj := cb HB aj
        replace ak := cb HB ak
        replace al := cb HB al
        replace ac := (cell_far (p := ⟨G, 0, none⟩) (by first | (rw [add_block]; exact hn247_0) | (show (Addr.add _ _).block ≠ _; rw [add_block]; exact hn247_0) | exact hn247_0) (.int .i64 ((rd_T56 z y).f1.f0))).trans ac
        replace ai := (cell_far (p := ⟨G, 0, none⟩) (by first | (rw [add_block]; exact hn247_0) | (show (Addr.add _ _).block ≠ _; rw [add_block]; exact hn247_0) | exact hn247_0) (.int .i64 ((rd_T56 z y).f1.f0))).trans ai
        replace aj := (cell_far (p := ⟨G, 0, none⟩) (by first | (rw [add_block]; exact hn247_0) | (show (Addr.add _ _).block ≠ _; rw [add_block]; exact hn247_0) | exact hn247_0) (.int .i64 ((rd_T56 z y).f1.f0))).trans aj
        replace ak := (cell_far (p := ⟨G, 0, none⟩) (by first | (rw [add_block]; exact hn247_0) | (show (Addr.add _ _).block ≠ _; rw [add_block]; exact hn247_0) | exact hn247_0) (.int .i64 ((rd_T56 z y).f1.f0))).trans ak
        replace al := (cell_far (p := ⟨G, 0, none⟩) (by first | (rw [add_block]; exact hn247_0) | (show (Addr.add _ _).block ≠ _; rw [add_block]; exact hn247_0) | exact hn247_0) (.int .i64 ((rd_T56 z y).f1.f0))).trans al
        replace ac := (cell_far (p := ⟨G, 1, none⟩) (by first | (rw [add_block]; exact hn247_1) | (show (Addr.add _ _).block ≠ _; rw [add_block]; exact hn247_1) | exact hn247_1) (.int .i64 ((rd_T56 z y).f1.f1))).trans ac
        replace ai := (cell_far (p := ⟨G, 1, none⟩) (by first | (rw [add_block]; exact hn247_1) | (show (Addr.add _ _).block ≠ _; rw [add_block]; exact hn247_1) | exact hn247_1) (.int .i64 ((rd_T56 z y).f1.f1))).trans ai
        replace aj := (cell_far (p := ⟨G, 1, none⟩) (by first | (rw [add_block]; exact hn247_1) | (show (Addr.add _ _).block ≠ _; rw [add_block]; exact hn247_1) | exact hn247_1) (.int .i64 ((rd_T56 z y).f1.f1))).trans aj
        replace ak := (cell_far (p := ⟨G, 1, none⟩) (by first | (rw [add_block]; exact hn247_1) | (show (Addr.add _ _).block ≠ _; rw [add_block]; exact hn247_1) | exact hn247_1) (.int .i64 ((rd_T56 z y).f1.f1))).trans ak
        replace al := (cell_far (p := ⟨G, 1, none⟩) (by first | (rw [add_block]; exact hn247_1) | (show (Addr.add _ _).block ≠ _; rw [add_block]; exact hn247_1) | exact hn247_1) (.int .i64 ((rd_T56 z y).f1.f1))).trans al
        (try have hy247_0 := fun (n_ : Nat) => (show ((((Z.drewN n_).setCell ⟨G, 0, none⟩ (.int .i64 ((rd_T56 z y).f1.f0))).setCell ⟨G, 1, none⟩ (.int .i64 ((rd_T56 z y).f1.f1)))).cell? _ = some _ from ac))
        (try have hy247_1 := fun (n_ : Nat) => (show ((((Z.drewN n_).setCell ⟨G, 0, none⟩ (.int .i64 ((rd_T56 z y).f1.f0))).setCell ⟨G, 1, none⟩ (.int .i64 ((rd_T56 z y).f1.f1)))).cell? _ = some _ from ai))
        (try have hy247_2 := fun (n_ : Nat) => (show ((((Z.drewN n_).setCell ⟨G, 0, none⟩ (.int .i64 ((rd_T56 z y).f1.f0))).setCell ⟨G, 1, none⟩ (.int .i64 ((rd_T56 z y).f1.f1)))).cell? _ = some _ from aj))
        (try have hy247_3 := fun (n_ : Nat) => (show ((((Z.drewN n_).setCell ⟨G, 0, none⟩ (.int .i64 ((rd_T56 z y).f1.f0))).setCell ⟨G, 1, none⟩ (.int .i64 ((rd_T56 z y).f1.f1)))).cell? _ = some _ from ak))
        (try have hy247_4 := fun (n_ : Nat) => (show ((((Z.drewN n_).setCell ⟨G, 0, none⟩ (.int .i64 ((rd_T56 z y).f1.f0))).setCell ⟨G, 1, none⟩ (.int .i64 ((rd_T56 z y).f1.f1)))).cell? _ = some _ from al))
        clear hn247_0
        clear hn247_1
        replace aU := eq_true aU
        replace aV := eq_true aV
        have eg := an.out
        have eh := ao.out
        have ei := aD.out
        have ej := aE.out
        obtain ⟨dz, dA⟩ := bc2 (w := Z) I.out
        have dB := blk_frozen I.out
        go_wp2
        repeat (go_quiet (fail); try go_wp2)
        go_roundg k1
        case measure => have := aI.out; omega
        case rel => exact ⟨(wrap64 (y + 1)), (T), (ab), (bj), (bk), eqs, H', ⟨by have := aI.out; omega⟩, ⟨by (with_reducible repeat (first | apply Kd.R_alloc | apply Kd.R_drewN | apply Kd.R_drew)); exact Kd.R_mono (Kd.R_far (p := ⟨G, 1, none⟩) (Kd.R_far (p := ⟨G, 0, none⟩) (Kd.R_mono L.out (fun k_ hk => (⟨hk, hk.2⟩ : _ ∧ k_ ≠ G))) (fun _ hk => hk.2) (.int .i64 ((rd_T56 z y).f1.f0))) (fun _ hk => hk.2) (.int .i64 ((rd_T56 z y).f1.f1))) (fun _ hk => hk.1.1)⟩, ⟨Kd.R_mono (rt M.out O.out (by decide)) (fun _ hk => trivial)⟩, ⟨bf D.out⟩, ⟨bf I.out⟩, ⟨bf J.out⟩, ⟨bs HB.out⟩⟩
       ·rw [if_neg bc] at H
        have cN : (!(((rd_T56 z y).f2.f0) == X) || (!(((rd_T56 z y).f2.f1) == Y))) = false := by simpa using bc
        clear bc
        have H' := am H
        clear H
        have ek := a9.out
        have el := ba.out
        have em := au.out
        have en := av.out
        have eo := aA.out
        have ep := aC.out
        obtain ⟨dC, dD⟩ := bc2 (w := Z) D.out
        have dE := blk_frozen D.out
        have aU : 0 ≤ (y : Int) := oda
        have aV : y < (z.length : Int) := oda
        obtain ⟨b7, b8, ac, ai, aj, ak, al⟩ := at_T56 bH.out y aU aV
        obtain rfl : az = b7 := (by injection b8)
        have hn247_0 : az.block ≠ G := Nat.ne_of_lt (Nat.lt_of_lt_of_le (by have := World.block_lt_of_cell? _ _ ac; first | rwa [add_block] at this | exact this) aJ.out)
        have hn247_1 : az.block ≠ G := Nat.ne_of_lt (Nat.lt_of_lt_of_le (by have := World.block_lt_of_cell? _ _ ac; first | rwa [add_block] at this | exact this) aJ.out)
        replace ac := cb HB ac
        replace ai := cb HB ai
        replace aj := cb HB aj
        replace ak := cb HB ak
        replace al := cb HB al
        replace ac := (cell_far (p := ⟨G, 0, none⟩) (by first | (rw [add_block]; exact hn247_0) | (show (Addr.add _ _).block ≠ _; rw [add_block]; exact hn247_0) | exact hn247_0) (.int .i64 ((rd_T56 z y).f1.f0))).trans ac
        replace ai := (cell_far (p := ⟨G, 0, none⟩) (by first | (rw [add_block]; exact hn247_0) | (show (Addr.add _ _).block ≠ _; rw [add_block]; exact hn247_0) | exact hn247_0) (.int .i64 ((rd_T56 z y).f1.f0))).trans ai
        replace aj := (cell_far (p := ⟨G, 0, none⟩) (by first | (rw [add_block]; exact hn247_0) | (show (Addr.add _ _).block ≠ _; rw [add_block]; exact hn247_0) | exact hn247_0) (.int .i64 ((rd_T56 z y).f1.f0))).trans aj
        replace ak := (cell_far (p := ⟨G, 0, none⟩) (by first | (rw [add_block]; exact hn247_0) | (show (Addr.add _ _).block ≠ _; rw [add_block]; exact hn247_0) | exact hn247_0) (.int .i64 ((rd_T56 z y).f1.f0))).trans ak
        replace al := (cell_far (p := ⟨G, 0, none⟩) (by first | (rw [add_block]; exact hn247_0) | (show (Addr.add _ _).block ≠ _; rw [add_block]; exact hn247_0) | exact hn247_0) (.int .i64 ((rd_T56 z y).f1.f0))).trans al
        replace ac := (cell_far (p := ⟨G, 1, none⟩) (by first | (rw [add_block]; exact hn247_1) | (show (Addr.add _ _).block ≠ _; rw [add_block]; exact hn247_1) | exact hn247_1) (.int .i64 ((rd_T56 z y).f1.f1))).trans ac
        replace ai := (cell_far (p := ⟨G, 1, none⟩) (by first | (rw [add_block]; exact hn247_1) | (show (Addr.add _ _).block ≠ _; rw [add_block]; exact hn247_1) | exact hn247_1) (.int .i64 ((rd_T56 z y).f1.f1))).trans ai
        replace aj := (cell_far (p := ⟨G, 1, none⟩) (by first | (rw [add_block]; exact hn247_1) | (show (Addr.add _ _).block ≠ _; rw [add_block]; exact hn247_1) | exact hn247_1) (.int .i64 ((rd_T56 z y).f1.f1))).trans aj
        replace ak := (cell_far (p := ⟨G, 1, none⟩) (by first | (rw [add_block]; exact hn247_1) | (show (Addr.add _ _).block ≠ _; rw [add_block]; exact hn247_1) | exact hn247_1) (.int .i64 ((rd_T56 z y).f1.f1))).trans ak
        replace al := (cell_far (p := ⟨G, 1, none⟩) (by first | (rw [add_block]; exact hn247_1) | (show (Addr.add _ _).block ≠ _; rw [add_block]; exact hn247_1) | exact hn247_1) (.int .i64 ((rd_T56 z y).f1.f1))).trans al
        (try have hy247_0 := fun (n_ : Nat) => (show ((((Z.drewN n_).setCell ⟨G, 0, none⟩ (.int .i64 ((rd_T56 z y).f1.f0))).setCell ⟨G, 1, none⟩ (.int .i64 ((rd_T56 z y).f1.f1)))).cell? _ = some _ from ac))
        (try have hy247_1 := fun (n_ : Nat) => (show ((((Z.drewN n_).setCell ⟨G, 0, none⟩ (.int .i64 ((rd_T56 z y).f1.f0))).setCell ⟨G, 1, none⟩ (.int .i64 ((rd_T56 z y).f1.f1)))).cell? _ = some _ from ai))
        (try have hy247_2 := fun (n_ : Nat) => (show ((((Z.drewN n_).setCell ⟨G, 0, none⟩ (.int .i64 ((rd_T56 z y).f1.f0))).setCell ⟨G, 1, none⟩ (.int .i64 ((rd_T56 z y).f1.f1)))).cell? _ = some _ from aj))
        (try have hy247_3 := fun (n_ : Nat) => (show ((((Z.drewN n_).setCell ⟨G, 0, none⟩ (.int .i64 ((rd_T56 z y).f1.f0))).setCell ⟨G, 1, none⟩ (.int .i64 ((rd_T56 z y).f1.f1)))).cell? _ = some _ from ak))
        (try have hy247_4 := fun (n_ : Nat) => (show ((((Z.drewN n_).setCell ⟨G, 0, none⟩ (.int .i64 ((rd_T56 z y).f1.f0))).setCell ⟨G, 1, none⟩ (.int .i64 ((rd_T56 z y).f1.f1)))).cell? _ = some _ from al))
        clear hn247_0
        clear hn247_1
        replace aU := eq_true aU
        replace aV := eq_true aV
        have eq := an.out
        have er := ao.out
        have es := aD.out
        have et := aE.out
        obtain ⟨dF, dG⟩ := bc2 (w := Z) I.out
        have dH := blk_frozen I.out
        go_wp2
        repeat (go_quiet (fail); try go_wp2)
        go_meet
        case rel => exact ⟨_, ((rd_T56 z y).f1.f0), ((rd_T56 z y).f1.f1), H', ⟨by have := aI.out; first | omega | exact Nat.le_refl _⟩, ⟨by (with_reducible repeat (first | apply Kd.R_alloc | apply Kd.R_drewN | apply Kd.R_drew)); exact Kd.R_mono (Kd.R_far (p := ⟨G, 1, none⟩) (Kd.R_far (p := ⟨G, 0, none⟩) (Kd.R_mono L.out (fun k_ hk => (⟨hk, hk.2⟩ : _ ∧ k_ ≠ G))) (fun _ hk => hk.2) (.int .i64 ((rd_T56 z y).f1.f0))) (fun _ hk => hk.2) (.int .i64 ((rd_T56 z y).f1.f1))) (fun _ hk => ⟨hk.1.1, hk.1.2⟩)⟩, ⟨Kd.R_mono (rt M.out O.out (by decide)) (fun _ hk => trivial)⟩, ⟨bf D.out⟩, ⟨bf I.out⟩, ⟨bf J.out⟩, ⟨by (with_reducible repeat (first | refine blk_drewN ?_ _ | refine blk_drew ?_ | refine blk_alloc ?_ _)); refine blk_put (cs := #[.int .i64 ((rd_T56 z y).f1.f0), .int .i64 0]) ?_ 1 _ rfl; (with_reducible repeat (first | refine blk_drewN ?_ _ | refine blk_drew ?_ | refine blk_alloc ?_ _)); refine blk_put (cs := #[.int .i64 0, .int .i64 0]) ?_ 0 _ rfl; exact bf O.out⟩, ⟨bs HB.out⟩⟩
     case rest =>
      clear bV
      try clear c1
      try clear c2
      try clear p2
      try clear q2
      try clear eu
      try clear c3
      try clear c4
      try clear c6
      try clear p6
      try clear c7
      try clear c9
      try clear cC
      try clear bv
      try clear dg
      try clear ev
      try clear ew
      try clear ex
      try clear ey
      try clear ez
      try clear eA
      try clear aw
      try clear bl
      try clear cL
      try clear cM
      try clear eB
      try clear eC
      try clear eD
      try clear eE
      try clear eF
      try clear eG
      try clear eH
      try clear eI
      try clear bc
      try clear cN
      try clear eJ
      try clear eK
      try clear eL
      try clear eM
      try clear eN
      try clear eO
      try clear eP
      try clear eQ
      try clear eR
      try clear eS
      try clear dh di
      try clear b1 b2
      try clear b4 b5
      try clear dl dm
      try clear dt du
      try clear dw dx
      try clear dz dA
      try clear dC dD
      try clear dF dG
      try clear bK bL
      try clear dj
      try clear b3
      try clear b6
      try clear dp
      try clear dv
      try clear dy
      try clear dB
      try clear dE
      try clear dH
      try clear bM
      try clear bW
      try clear bX
      try clear bY
      try clear bZ
      try clear b0
      try clear aG
      try clear aN
      try clear aP
      try clear aQ
      try clear aT
      try clear ac
      try clear ai
      try clear aj
      try clear ak
      try clear al
      try clear p2
      try clear bN
      try clear bP
      try clear aU
      try clear bO
      try clear bQ
      try clear aV
      obtain ⟨kq, ap, aq, HA, bR, L, M, D, I, J, O, HB⟩ := hcut
      cases kq with
      | zero => exact absurd HA.out (by simp [spec_l2Near.j1])
      | succ ax =>
       have H := HA.out
       clear HA
       simp only [spec_l2Near.j1] at H
       replace H := Option.bind_eq_some_iff.mp H
       obtain ⟨aH, cO, H⟩ := H
       try dsimp -simprocs only at H
       have bm := am cO
       clear cO
       by_cases bn : aH < 0
       ·rw [if_pos bn] at H
        have dI : decide (aH < 0) = true := decide_eq_true bn
        clear bn
        replace H := Option.bind_eq_some_iff.mp H
        obtain ⟨⟨bo, bw⟩, cP, H⟩ := H
        try dsimp -simprocs only at H
        have b9 := am cP
        clear cP
        have H' := am H
        clear H
        have eT := av.out
        have eU := au.out
        have eV := ao.out
        have eW := an.out
        have eX := aK.out
        have eY := aM.out
        obtain ⟨eZ, e0⟩ := bc2 (w := wc) J.out
        have e1 := blk_frozen J.out
        have e2 := aC.out
        have e3 := aA.out
        have e4 := aE.out
        have e5 := aD.out
        obtain ⟨e6, e7⟩ := bc2 (w := wc) O.out
        have e8 := blk_frozen O.out
        obtain ⟨be, bg, dJ⟩ := Kd.R_slice L.out
        subst dJ
        obtain ⟨aW, aX, dK⟩ := Kd.R_slice M.out
        subst dK
        go_wp2_with (first | (go_at_call 62; (with_reducible refine (spec_l2At.calls ax _ _ T _ _ ab ap aq aH _ ?af ?ag ?ah ?ay bm.out).mono ?_); (case af => exact cr L); (case ag => exact cc L); (case ah => exact cr M); (case ay => exact cc M); rintro e aY ⟨rfl, hb⟩; replace L := rb L hb; replace M := rb M hb; replace D := bb D hb rfl; replace I := bb I hb rfl; replace J := bb J hb rfl; replace O := bb O hb rfl; replace HB := hs HB hb; (try clear hb); obtain ⟨cQ, cR⟩ := bc2 (w := aY) J.out; have cS := blk_frozen J.out; obtain ⟨cT, cU⟩ := bc2 (w := aY) O.out; have cV := blk_frozen O.out) | (go_at_call 109; (with_reducible refine (spec_l2PutNode.calls ax (fun k_ => some k_ = (.slice be T.length bg : Value).ownBlock) (.slice be T.length bg) T (fun k_ => some k_ = (.slice aW ab.length aX : Value).ownBlock) (.slice aW ab.length aX) ab ap aq bo bw w _ ?af ?ag ?ah b9.out).mono ?_); (case af => exact bs HB.out); (case ag => exact Kd.R_tight rfl L.out); (case ah => exact Kd.R_tight rfl M.out); rintro e bz ⟨cW, cX, rfl, aZ, a5, hb, hkp⟩; replace D := am (blk_kept (bf D.out) hkp (fun hs_ => Or.elim hs_ (fun e_ => (fun e_ => (Kd.R_ne L.out D.out (by decide)) e_) e_) (fun e_ => (fun e_ => (Kd.R_ne M.out D.out (by decide)) e_) e_))); replace J := am (blk_kept (bf J.out) hkp (fun hs_ => Or.elim hs_ (fun e_ => (fun e_ => (Kd.R_ne L.out J.out (by decide)) e_) e_) (fun e_ => (fun e_ => (Kd.R_ne M.out J.out (by decide)) e_) e_))); have br := am (Kd.R_mono (ok' := fun k_ => k_ ≠ aa ∧ k_ ≠ G) aZ (fun k_ hk_ => ⟨Or.elim hk_ (fun hs_ => Or.elim hs_ (fun hs_ => fun e_ => (Kd.R_away L.out (fun _ hk => hk.1)) (by rw [← e_]; exact hs_)) (fun hs_ => fun e_ => (Kd.R_ne M.out I.out (by decide)) (by rw [← e_]; exact hs_))) (fun hn_ => (Kd.freshB (g := aa) (o := .cells #[.int .i64 X, .int .i64 Y] 36 (0, 0)) (bf I.out) k_ hn_)), Or.elim hk_ (fun hs_ => Or.elim hs_ (fun hs_ => fun e_ => (Kd.R_away L.out (fun _ hk => hk.2)) (by rw [← e_]; exact hs_)) (fun hs_ => fun e_ => (Kd.R_ne M.out O.out (by decide)) (by rw [← e_]; exact hs_))) (fun hn_ => (Kd.freshB (g := G) (o := .cells #[.int .i64 ap, .int .i64 aq] 36 (0, 0)) (bf O.out) k_ hn_))⟩)); replace I := am (blk_kept (bf I.out) hkp (fun hs_ => Or.elim hs_ (fun e_ => (fun e_ => (Kd.R_away L.out (fun _ hk => hk.1)) e_) e_) (fun e_ => (fun e_ => (Kd.R_ne M.out I.out (by decide)) e_) e_))); replace O := am (blk_kept (bf O.out) hkp (fun hs_ => Or.elim hs_ (fun e_ => (fun e_ => (Kd.R_away L.out (fun _ hk => hk.2)) e_) e_) (fun e_ => (fun e_ => (Kd.R_ne M.out O.out (by decide)) e_) e_))); have bt := am (Kd.R_mono (ok' := fun k_ => True) a5 (fun k_ hk_ => trivial)); replace HB := am hb; clear L M; (try clear aZ a5 hb hkp); obtain ⟨bS, bT, bA⟩ := Kd.R_slice br.out; subst bA; obtain ⟨cY, cZ⟩ := bc2 (w := bz) J.out; have c0 := blk_frozen J.out; obtain ⟨ce, cf, bB⟩ := Kd.R_slice bt.out; subst bB))
        repeat (go_quiet (first | (go_at_call 62; (with_reducible refine (spec_l2At.calls ax _ _ T _ _ ab ap aq aH _ ?af ?ag ?ah ?ay bm.out).mono ?_); (case af => exact cr L); (case ag => exact cc L); (case ah => exact cr M); (case ay => exact cc M); rintro e aY ⟨rfl, hb⟩; replace L := rb L hb; replace M := rb M hb; replace D := bb D hb rfl; replace I := bb I hb rfl; replace J := bb J hb rfl; replace O := bb O hb rfl; replace HB := hs HB hb; (try clear hb); obtain ⟨cQ, cR⟩ := bc2 (w := aY) J.out; have cS := blk_frozen J.out; obtain ⟨cT, cU⟩ := bc2 (w := aY) O.out; have cV := blk_frozen O.out) | (go_at_call 109; (with_reducible refine (spec_l2PutNode.calls ax (fun k_ => some k_ = (.slice be T.length bg : Value).ownBlock) (.slice be T.length bg) T (fun k_ => some k_ = (.slice aW ab.length aX : Value).ownBlock) (.slice aW ab.length aX) ab ap aq bo bw w _ ?af ?ag ?ah b9.out).mono ?_); (case af => exact bs HB.out); (case ag => exact Kd.R_tight rfl L.out); (case ah => exact Kd.R_tight rfl M.out); rintro e bz ⟨cW, cX, rfl, aZ, a5, hb, hkp⟩; replace D := am (blk_kept (bf D.out) hkp (fun hs_ => Or.elim hs_ (fun e_ => (fun e_ => (Kd.R_ne L.out D.out (by decide)) e_) e_) (fun e_ => (fun e_ => (Kd.R_ne M.out D.out (by decide)) e_) e_))); replace J := am (blk_kept (bf J.out) hkp (fun hs_ => Or.elim hs_ (fun e_ => (fun e_ => (Kd.R_ne L.out J.out (by decide)) e_) e_) (fun e_ => (fun e_ => (Kd.R_ne M.out J.out (by decide)) e_) e_))); have br := am (Kd.R_mono (ok' := fun k_ => k_ ≠ aa ∧ k_ ≠ G) aZ (fun k_ hk_ => ⟨Or.elim hk_ (fun hs_ => Or.elim hs_ (fun hs_ => fun e_ => (Kd.R_away L.out (fun _ hk => hk.1)) (by rw [← e_]; exact hs_)) (fun hs_ => fun e_ => (Kd.R_ne M.out I.out (by decide)) (by rw [← e_]; exact hs_))) (fun hn_ => (Kd.freshB (g := aa) (o := .cells #[.int .i64 X, .int .i64 Y] 36 (0, 0)) (bf I.out) k_ hn_)), Or.elim hk_ (fun hs_ => Or.elim hs_ (fun hs_ => fun e_ => (Kd.R_away L.out (fun _ hk => hk.2)) (by rw [← e_]; exact hs_)) (fun hs_ => fun e_ => (Kd.R_ne M.out O.out (by decide)) (by rw [← e_]; exact hs_))) (fun hn_ => (Kd.freshB (g := G) (o := .cells #[.int .i64 ap, .int .i64 aq] 36 (0, 0)) (bf O.out) k_ hn_))⟩)); replace I := am (blk_kept (bf I.out) hkp (fun hs_ => Or.elim hs_ (fun e_ => (fun e_ => (Kd.R_away L.out (fun _ hk => hk.1)) e_) e_) (fun e_ => (fun e_ => (Kd.R_ne M.out I.out (by decide)) e_) e_))); replace O := am (blk_kept (bf O.out) hkp (fun hs_ => Or.elim hs_ (fun e_ => (fun e_ => (Kd.R_away L.out (fun _ hk => hk.2)) e_) e_) (fun e_ => (fun e_ => (Kd.R_ne M.out O.out (by decide)) e_) e_))); have bt := am (Kd.R_mono (ok' := fun k_ => True) a5 (fun k_ hk_ => trivial)); replace HB := am hb; clear L M; (try clear aZ a5 hb hkp); obtain ⟨bS, bT, bA⟩ := Kd.R_slice br.out; subst bA; obtain ⟨cY, cZ⟩ := bc2 (w := bz) J.out; have c0 := blk_frozen J.out; obtain ⟨ce, cf, bB⟩ := Kd.R_slice bt.out; subst bB)); try go_wp2_with (first | (go_at_call 62; (with_reducible refine (spec_l2At.calls ax _ _ T _ _ ab ap aq aH _ ?af ?ag ?ah ?ay bm.out).mono ?_); (case af => exact cr L); (case ag => exact cc L); (case ah => exact cr M); (case ay => exact cc M); rintro e aY ⟨rfl, hb⟩; replace L := rb L hb; replace M := rb M hb; replace D := bb D hb rfl; replace I := bb I hb rfl; replace J := bb J hb rfl; replace O := bb O hb rfl; replace HB := hs HB hb; (try clear hb); obtain ⟨cQ, cR⟩ := bc2 (w := aY) J.out; have cS := blk_frozen J.out; obtain ⟨cT, cU⟩ := bc2 (w := aY) O.out; have cV := blk_frozen O.out) | (go_at_call 109; (with_reducible refine (spec_l2PutNode.calls ax (fun k_ => some k_ = (.slice be T.length bg : Value).ownBlock) (.slice be T.length bg) T (fun k_ => some k_ = (.slice aW ab.length aX : Value).ownBlock) (.slice aW ab.length aX) ab ap aq bo bw w _ ?af ?ag ?ah b9.out).mono ?_); (case af => exact bs HB.out); (case ag => exact Kd.R_tight rfl L.out); (case ah => exact Kd.R_tight rfl M.out); rintro e bz ⟨cW, cX, rfl, aZ, a5, hb, hkp⟩; replace D := am (blk_kept (bf D.out) hkp (fun hs_ => Or.elim hs_ (fun e_ => (fun e_ => (Kd.R_ne L.out D.out (by decide)) e_) e_) (fun e_ => (fun e_ => (Kd.R_ne M.out D.out (by decide)) e_) e_))); replace J := am (blk_kept (bf J.out) hkp (fun hs_ => Or.elim hs_ (fun e_ => (fun e_ => (Kd.R_ne L.out J.out (by decide)) e_) e_) (fun e_ => (fun e_ => (Kd.R_ne M.out J.out (by decide)) e_) e_))); have br := am (Kd.R_mono (ok' := fun k_ => k_ ≠ aa ∧ k_ ≠ G) aZ (fun k_ hk_ => ⟨Or.elim hk_ (fun hs_ => Or.elim hs_ (fun hs_ => fun e_ => (Kd.R_away L.out (fun _ hk => hk.1)) (by rw [← e_]; exact hs_)) (fun hs_ => fun e_ => (Kd.R_ne M.out I.out (by decide)) (by rw [← e_]; exact hs_))) (fun hn_ => (Kd.freshB (g := aa) (o := .cells #[.int .i64 X, .int .i64 Y] 36 (0, 0)) (bf I.out) k_ hn_)), Or.elim hk_ (fun hs_ => Or.elim hs_ (fun hs_ => fun e_ => (Kd.R_away L.out (fun _ hk => hk.2)) (by rw [← e_]; exact hs_)) (fun hs_ => fun e_ => (Kd.R_ne M.out O.out (by decide)) (by rw [← e_]; exact hs_))) (fun hn_ => (Kd.freshB (g := G) (o := .cells #[.int .i64 ap, .int .i64 aq] 36 (0, 0)) (bf O.out) k_ hn_))⟩)); replace I := am (blk_kept (bf I.out) hkp (fun hs_ => Or.elim hs_ (fun e_ => (fun e_ => (Kd.R_away L.out (fun _ hk => hk.1)) e_) e_) (fun e_ => (fun e_ => (Kd.R_ne M.out I.out (by decide)) e_) e_))); replace O := am (blk_kept (bf O.out) hkp (fun hs_ => Or.elim hs_ (fun e_ => (fun e_ => (Kd.R_away L.out (fun _ hk => hk.2)) e_) e_) (fun e_ => (fun e_ => (Kd.R_ne M.out O.out (by decide)) e_) e_))); have bt := am (Kd.R_mono (ok' := fun k_ => True) a5 (fun k_ hk_ => trivial)); replace HB := am hb; clear L M; (try clear aZ a5 hb hkp); obtain ⟨bS, bT, bA⟩ := Kd.R_slice br.out; subst bA; obtain ⟨cY, cZ⟩ := bc2 (w := bz) J.out; have c0 := blk_frozen J.out; obtain ⟨ce, cf, bB⟩ := Kd.R_slice bt.out; subst bB)))
        go_roundg ax
        case measure => have := aI.out; have := bR.out; omega
        case rel => exact ⟨(wrap64 (y + 1)), (bo), (bw), (.slice bS bo.length bT), (.slice ce bw.length cf), eqs, H', ⟨by have := aI.out; have := bR.out; omega⟩, ⟨Kd.R_mono (rt br.out J.out (by decide)) (fun _ hk => hk.1)⟩, ⟨Kd.R_mono (rt bt.out J.out (by decide)) (fun _ hk => trivial)⟩, ⟨bf D.out⟩, ⟨bf I.out⟩, ⟨by (with_reducible repeat (first | refine blk_drewN ?_ _ | refine blk_drew ?_ | refine blk_alloc ?_ _)); refine blk_put (cs := #[.slice bS bo.length bT, .slice aW ab.length aX]) ?_ 1 _ rfl; (with_reducible repeat (first | refine blk_drewN ?_ _ | refine blk_drew ?_ | refine blk_alloc ?_ _)); refine blk_put (cs := #[.slice be T.length bg, .slice aW ab.length aX]) ?_ 0 _ rfl; exact bf J.out⟩, ⟨bs HB.out⟩⟩
       ·rw [if_neg bn] at H
        have dI : decide (aH < 0) = false := decide_eq_false bn
        clear bn
        have H' := am H
        clear H
        have e9 := av.out
        have fa := au.out
        have fb := ao.out
        have fc := an.out
        have fd := aK.out
        have fe := aM.out
        obtain ⟨ff, fg⟩ := bc2 (w := wc) J.out
        have fh := blk_frozen J.out
        have fi := aC.out
        have fj := aA.out
        have fk := aE.out
        have fl := aD.out
        obtain ⟨fm, fo⟩ := bc2 (w := wc) O.out
        have fp := blk_frozen O.out
        obtain ⟨dL, dM, dN⟩ := Kd.R_slice L.out
        subst dN
        obtain ⟨dO, dP, dQ⟩ := Kd.R_slice M.out
        subst dQ
        go_wp2_with (first | (go_at_call 62; (with_reducible refine (spec_l2At.calls ax _ _ T _ _ ab ap aq aH _ ?af ?ag ?ah ?ay bm.out).mono ?_); (case af => exact cr L); (case ag => exact cc L); (case ah => exact cr M); (case ay => exact cc M); rintro e c5 ⟨rfl, hb⟩; replace L := rb L hb; replace M := rb M hb; replace D := bb D hb rfl; replace I := bb I hb rfl; replace J := bb J hb rfl; replace O := bb O hb rfl; replace HB := hs HB hb; (try clear hb)))
        repeat (go_quiet (first | (go_at_call 62; (with_reducible refine (spec_l2At.calls ax _ _ T _ _ ab ap aq aH _ ?af ?ag ?ah ?ay bm.out).mono ?_); (case af => exact cr L); (case ag => exact cc L); (case ah => exact cr M); (case ay => exact cc M); rintro e c5 ⟨rfl, hb⟩; replace L := rb L hb; replace M := rb M hb; replace D := bb D hb rfl; replace I := bb I hb rfl; replace J := bb J hb rfl; replace O := bb O hb rfl; replace HB := hs HB hb; (try clear hb))); try go_wp2_with (first | (go_at_call 62; (with_reducible refine (spec_l2At.calls ax _ _ T _ _ ab ap aq aH _ ?af ?ag ?ah ?ay bm.out).mono ?_); (case af => exact cr L); (case ag => exact cc L); (case ah => exact cr M); (case ay => exact cc M); rintro e c5 ⟨rfl, hb⟩; replace L := rb L hb; replace M := rb M hb; replace D := bb D hb rfl; replace I := bb I hb rfl; replace J := bb J hb rfl; replace O := bb O hb rfl; replace HB := hs HB hb; (try clear hb))))
        go_roundg ax
        case measure => have := aI.out; have := bR.out; omega
        case rel => exact ⟨(wrap64 (y + 1)), (T), (ab), (.slice dL T.length dM), (.slice dO ab.length dP), eqs, H', ⟨by have := aI.out; have := bR.out; omega⟩, ⟨by (with_reducible repeat (first | apply Kd.R_alloc | apply Kd.R_drewN | apply Kd.R_drew)); exact Kd.R_mono L.out (fun _ hk => hk.1)⟩, ⟨rl M.out⟩, ⟨bf D.out⟩, ⟨bf I.out⟩, ⟨bf J.out⟩, ⟨bs HB.out⟩⟩
    ·rw [if_neg bv] at H
     exact absurd H (by simp)
   ·rw [if_neg c9] at H
    have cC : decide (y < (z.length : Int)) = false := decide_eq_false c9
    clear c9
    obtain ⟨bh, cg⟩ : ∃ y_ : List (S36), y_ = (([] : List (S36))) := ⟨_, rfl⟩
    replace H : (if bh.length + T.length < 8796093022208 then (some (bh ++ T)) else (none)) = some r := by first | (rw [cg]; exact H) | exact H
    have bu := am cg
    clear cg
    by_cases bU : bh.length + T.length < 8796093022208
    ·rw [if_pos bU] at H
     have ch := am bU
     clear bU
     obtain ⟨dR, ci⟩ : ∃ y_ : List (S36), y_ = (bh ++ T) := ⟨_, rfl⟩
     replace H : (some dR) = some r := by first | (rw [ci]; exact H) | exact H
     have cj := am ci
     clear ci
     obtain rfl := Option.some.inj H
     have fq := a9.out
     have fr := ba.out
     have fs := au.out
     have ft := av.out
     obtain ⟨fu, fv⟩ := bc2 (w := wr) D.out
     have fw := blk_frozen D.out
     go_wp2_with (first | ((with_reducible refine gd 46 rfl ?_); refine Kd.R_lit k36 _ 36 ?hg (N := 46) ?hd (xs := ([] : List (S36))) (inner := []) (ok := fun _ => True) (okp := fun _ => True) ?hr ?hp (fun _ hk => hk) trivial (Below.refl _ _) (Nat.le_refl _) (by simp) ?_; (case hd => rfl); (case hg => rfl); (case hr => first | (go_simp; done) | (go_simp; rfl)); (case hp => exact (Reps.none _ _)); intro bC bD ad hb hg_ hnew_; clear hg_ hnew_; (first | rw [← bu.out] at ad | (simp only [Int.reduceToNat] at ad; rw [← bu.out] at ad)); replace M := rb M hb; have ae := am (Kd.R_lower (Kd.R_newB (Kd.R_new' ad (rk L)) (g := aa) (o := .cells #[.int .i64 X, .int .i64 Y] 36 (0, 0)) (bf I.out)) (below_size (bs HB.out))); replace L := re L ad hb; replace D := bb D hb rfl; replace I := bb I hb rfl; replace J := bb J hb rfl; replace HB := hs HB hb; clear hb ad; have c8 := ao.out; have da := an.out; obtain ⟨db, dc⟩ := bc2 (w := bD) J.out; have dd := blk_frozen J.out; obtain ⟨bE, bF, bG⟩ := Kd.R_slice L.out; subst bG) | ((with_reducible refine gate_builtin (b := .append) (xs := #[.tmp 46, .tmp 48]) rfl ?_); at_builtin; refine Kd.R_append_rows k36 (w0 := w) w.heap.size rfl (.tmp 46) (.tmp 48) 29 36 (.agg #[(.int .i64 0), (.int .i64 0)]) 16 rfl Try.underlying29 info36 rfl (by decide) (by omega) bC bh T _ _ _ (fun k_ => some k_ ≠ (.slice bE T.length bF : Value).ownBlock ∧ k_ ≠ aa) (fun _ => False) rfl rfl ?aO ?aR (fun _ _ h => h) (fun _ h => h.elim) ?aF ?aB ?aS ?aL ?_; (case aR => exact cr L); (case aB => exact (bs HB.out)); (case aF => exact (fun k_ hk => ⟨Kd.fresh' (rk L) k_ hk, Kd.freshB (g := aa) (o := .cells #[.int .i64 X, .int .i64 Y] 36 (0, 0)) (bf I.out) k_ hk⟩)); (case aO => exact (by (with_reducible repeat (first | apply Kd.R_alloc | apply Kd.R_drewN | apply Kd.R_drew)); exact Kd.R_mono ae.out (fun _ hk => ⟨hk.1.2, hk.2⟩))); (case aS => exact (below_size (bs HB.out))); (case aL => have := ch.out; omega); intro de df ho hb hg hat; rw [← cj.out] at ho; replace L := am (Kd.R_after (ok := (fun k_ => k_ ≠ aa)) (rl L.out) hg hat); replace M := am (Kd.R_over' (rl M.out) (Kd.R_typed (rl ae.out)) (by decide) hg); replace D := gr D ae hg; replace I := am (blk_grown (g := aa) (o := .cells #[.int .i64 X, .int .i64 Y] 36 (0, 0)) (bf I.out) hg (Kd.R_away ae.out (fun _ hk => hk.2))); replace J := gr J ae hg; replace HB := am hb; have ck := am ho; clear ae; clear ho hb hg hat))
     repeat (go_quiet (first | ((with_reducible refine gd 46 rfl ?_); refine Kd.R_lit k36 _ 36 ?hg (N := 46) ?hd (xs := ([] : List (S36))) (inner := []) (ok := fun _ => True) (okp := fun _ => True) ?hr ?hp (fun _ hk => hk) trivial (Below.refl _ _) (Nat.le_refl _) (by simp) ?_; (case hd => rfl); (case hg => rfl); (case hr => first | (go_simp; done) | (go_simp; rfl)); (case hp => exact (Reps.none _ _)); intro bC bD ad hb hg_ hnew_; clear hg_ hnew_; (first | rw [← bu.out] at ad | (simp only [Int.reduceToNat] at ad; rw [← bu.out] at ad)); replace M := rb M hb; have ae := am (Kd.R_lower (Kd.R_newB (Kd.R_new' ad (rk L)) (g := aa) (o := .cells #[.int .i64 X, .int .i64 Y] 36 (0, 0)) (bf I.out)) (below_size (bs HB.out))); replace L := re L ad hb; replace D := bb D hb rfl; replace I := bb I hb rfl; replace J := bb J hb rfl; replace HB := hs HB hb; clear hb ad; have c8 := ao.out; have da := an.out; obtain ⟨db, dc⟩ := bc2 (w := bD) J.out; have dd := blk_frozen J.out; obtain ⟨bE, bF, bG⟩ := Kd.R_slice L.out; subst bG) | ((with_reducible refine gate_builtin (b := .append) (xs := #[.tmp 46, .tmp 48]) rfl ?_); at_builtin; refine Kd.R_append_rows k36 (w0 := w) w.heap.size rfl (.tmp 46) (.tmp 48) 29 36 (.agg #[(.int .i64 0), (.int .i64 0)]) 16 rfl Try.underlying29 info36 rfl (by decide) (by omega) bC bh T _ _ _ (fun k_ => some k_ ≠ (.slice bE T.length bF : Value).ownBlock ∧ k_ ≠ aa) (fun _ => False) rfl rfl ?aO ?aR (fun _ _ h => h) (fun _ h => h.elim) ?aF ?aB ?aS ?aL ?_; (case aR => exact cr L); (case aB => exact (bs HB.out)); (case aF => exact (fun k_ hk => ⟨Kd.fresh' (rk L) k_ hk, Kd.freshB (g := aa) (o := .cells #[.int .i64 X, .int .i64 Y] 36 (0, 0)) (bf I.out) k_ hk⟩)); (case aO => exact (by (with_reducible repeat (first | apply Kd.R_alloc | apply Kd.R_drewN | apply Kd.R_drew)); exact Kd.R_mono ae.out (fun _ hk => ⟨hk.1.2, hk.2⟩))); (case aS => exact (below_size (bs HB.out))); (case aL => have := ch.out; omega); intro de df ho hb hg hat; rw [← cj.out] at ho; replace L := am (Kd.R_after (ok := (fun k_ => k_ ≠ aa)) (rl L.out) hg hat); replace M := am (Kd.R_over' (rl M.out) (Kd.R_typed (rl ae.out)) (by decide) hg); replace D := gr D ae hg; replace I := am (blk_grown (g := aa) (o := .cells #[.int .i64 X, .int .i64 Y] 36 (0, 0)) (bf I.out) hg (Kd.R_away ae.out (fun _ hk => hk.2))); replace J := gr J ae hg; replace HB := am hb; have ck := am ho; clear ae; clear ho hb hg hat)); try go_wp2_with (first | ((with_reducible refine gd 46 rfl ?_); refine Kd.R_lit k36 _ 36 ?hg (N := 46) ?hd (xs := ([] : List (S36))) (inner := []) (ok := fun _ => True) (okp := fun _ => True) ?hr ?hp (fun _ hk => hk) trivial (Below.refl _ _) (Nat.le_refl _) (by simp) ?_; (case hd => rfl); (case hg => rfl); (case hr => first | (go_simp; done) | (go_simp; rfl)); (case hp => exact (Reps.none _ _)); intro bC bD ad hb hg_ hnew_; clear hg_ hnew_; (first | rw [← bu.out] at ad | (simp only [Int.reduceToNat] at ad; rw [← bu.out] at ad)); replace M := rb M hb; have ae := am (Kd.R_lower (Kd.R_newB (Kd.R_new' ad (rk L)) (g := aa) (o := .cells #[.int .i64 X, .int .i64 Y] 36 (0, 0)) (bf I.out)) (below_size (bs HB.out))); replace L := re L ad hb; replace D := bb D hb rfl; replace I := bb I hb rfl; replace J := bb J hb rfl; replace HB := hs HB hb; clear hb ad; have c8 := ao.out; have da := an.out; obtain ⟨db, dc⟩ := bc2 (w := bD) J.out; have dd := blk_frozen J.out; obtain ⟨bE, bF, bG⟩ := Kd.R_slice L.out; subst bG) | ((with_reducible refine gate_builtin (b := .append) (xs := #[.tmp 46, .tmp 48]) rfl ?_); at_builtin; refine Kd.R_append_rows k36 (w0 := w) w.heap.size rfl (.tmp 46) (.tmp 48) 29 36 (.agg #[(.int .i64 0), (.int .i64 0)]) 16 rfl Try.underlying29 info36 rfl (by decide) (by omega) bC bh T _ _ _ (fun k_ => some k_ ≠ (.slice bE T.length bF : Value).ownBlock ∧ k_ ≠ aa) (fun _ => False) rfl rfl ?aO ?aR (fun _ _ h => h) (fun _ h => h.elim) ?aF ?aB ?aS ?aL ?_; (case aR => exact cr L); (case aB => exact (bs HB.out)); (case aF => exact (fun k_ hk => ⟨Kd.fresh' (rk L) k_ hk, Kd.freshB (g := aa) (o := .cells #[.int .i64 X, .int .i64 Y] 36 (0, 0)) (bf I.out) k_ hk⟩)); (case aO => exact (by (with_reducible repeat (first | apply Kd.R_alloc | apply Kd.R_drewN | apply Kd.R_drew)); exact Kd.R_mono ae.out (fun _ hk => ⟨hk.1.2, hk.2⟩))); (case aS => exact (below_size (bs HB.out))); (case aL => have := ch.out; omega); intro de df ho hb hg hat; rw [← cj.out] at ho; replace L := am (Kd.R_after (ok := (fun k_ => k_ ≠ aa)) (rl L.out) hg hat); replace M := am (Kd.R_over' (rl M.out) (Kd.R_typed (rl ae.out)) (by decide) hg); replace D := gr D ae hg; replace I := am (blk_grown (g := aa) (o := .cells #[.int .i64 X, .int .i64 Y] 36 (0, 0)) (bf I.out) hg (Kd.R_away ae.out (fun _ hk => hk.2))); replace J := gr J ae hg; replace HB := am hb; have ck := am ho; clear ae; clear ho hb hg hat)))
     go_ret
     exact ⟨_, eqr, by (with_reducible repeat (first | apply Kd.R_alloc | apply Kd.R_drewN | apply Kd.R_drew)); exact Kd.R_mono ck.out (fun _ hk => trivial), bs HB.out⟩
    ·rw [if_neg bU] at H
     exact absurd H (by simp)

/-! ### spec_l3Left: function 112 -/
def spec_l3Left.l0 : Nat → List Bool → List (S36) → Int → Int → List (S36) → List (S56) → Option (Int)
 | 0, _, _, _, _, _, _ => none
 | k + 1, z, y, D, s, G, I => if s < (y.length : Int) then (if 0 ≤ s then ((spec_l2At.f k G I ((rd_T36 y s).f0) ((rd_T36 y s).f1)).bind fun J => (if 0 ≤ J then (if J < (z.length : Int) then (if rdOf false z J = true then (spec_l3Left.l0 k z y (wrap64 (D + 1)) (wrap64 (s + 1)) G I) else (spec_l3Left.l0 k z y D (wrap64 (s + 1)) G I)) else (none)) else (none))) else (none)) else (some D)
def spec_l3Left.f (k : Nat) (s : List (S36)) (y : List (S56)) (l1 : List Bool) (z : Int) (D : Int) : Option (Int) := (spec_l2Near.f k s y z D).bind fun G => (spec_l3Left.l0 k l1 G 0 0 s y)
def spec_l3Left.T6 : Bool × List (List Nat × List Nat) := (true, [([], []), ([], []), ([], []), ([], []), ([2, 3], [2, 3]), ([4], [4]), ([1, 5], [1, 5]), ([0, 6], [0, 6]), ([7], [7])])
def spec_l3Left.B6 : List Nat := [0, 0, 0, 0, 12, 28, 62, 127, 255]
theorem spec_l3Left.tab6 : rtab .any (opsOf Try.f112 6) = spec_l3Left.T6 := by kernel_rfl
theorem spec_l3Left.bits6 : waitsOk spec_l3Left.T6.2 spec_l3Left.B6 = true := by kernel_rfl
theorem spec_l3Left.calls (k : Nat) (T : Option Addr) (X : Nat) (D : List (S36)) (Y : Option Addr) (Z : Nat) (G : List (S56)) (A1 : Option Addr) (c1 : Nat) (l1 : List Bool) (ab : Int) (ac : Int) (r : Int) (w : World) (aM : Kd.C k36 w T D.length D) (aN : D.length ≤ X) (aP : Kd.C k56 w Y G.length G) (aQ : G.length ≤ Z) (aT : Kd.C Kd.bool w A1 l1.length l1) (aU : l1.length ≤ c1) (h : spec_l3Left.f k D G l1 ab ac = some r) :
  Calls Try.prog 112 #[.agg #[.slice T D.length X, .slice Y G.length Z], .slice A1 l1.length c1, .agg #[.int .i64 ab, .int .i64 ac]] w fun e w' => e = .returned (.int .i64 r) ∧ Below w.heap.size w w' := by
 have hu34 := Try.underlying34
 have hu36 := Try.underlying36
 have az := am aM
 have aA := am aN
 clear aM aN
 have aC := am aP
 have aD := am aQ
 clear aP aQ
 have aV := am aT
 have bm := am aU
 clear aT aU
 have HB := am (Below.refl w.heap.size w)
 have H := h; unfold spec_l3Left.f at H
 clear h
 replace H := Option.bind_eq_some_iff.mp H
 obtain ⟨z, aW, H⟩ := H
 try dsimp -simprocs only at H
 have A4 := am aW
 clear aW
 have H' := am H
 clear H
 go_enter Try.func112, Try.ntmps112
 go_wp2_with (first | ((with_reducible refine gd 3 rfl ?_); refine bx 3 (cs := #[.slice T D.length X, .slice Y G.length Z]) (t := 34) ?_; intro ak hg w5 hbox hb; have y := am hbox; have bn := gwb HB hg; replace HB := hs HB hb; clear hb hbox hg) | ((with_reducible refine gd 5 rfl ?_); refine bx 5 (cs := #[.int .i64 ab, .int .i64 ac]) (t := 36) ?_; intro aE hg w6 hbox hb; have J := am hbox; have bo := gwb HB hg; replace HB := hs HB hb; have a5 := nq y hg; have a6 := nq' y hg; replace y := bb y hb rfl; clear hb hbox hg; have br := a5.out; have bt := a6.out; obtain ⟨a7, a8⟩ := bc2 (w := w6) y.out; have a9 := blk_frozen y.out; obtain ⟨ba, bc⟩ := bc2 (w := w6) J.out; have be := blk_frozen J.out) | ((with_reducible refine gc 64 rfl ?_); refine gl 12 Try.func64 #[.agg #[.slice T D.length X, .slice Y G.length Z], .agg #[.int .i64 ab, .int .i64 ac]] ?_; (with_reducible refine (spec_l2Near.calls k _ _ D _ _ G ab ac z _ ?al ?an ?ao ?ap A4.out).mono ?_); (case al => exact Kd.C_below az.out (bs HB.out)); (case an => exact aA.out); (case ao => exact Kd.C_below aC.out (bs HB.out)); (case ap => exact aD.out); rintro e bu ⟨bg, rfl, aX, hb⟩; refine ⟨_, rfl, ?_⟩; have bh := am (Kd.R_lower (Kd.R_newB aX (g := aE) (o := .cells #[.int .i64 ab, .int .i64 ac] 36 (0, 0)) (bf J.out)) (below_size (bs HB.out))); replace y := bb y hb rfl; replace J := bb J hb rfl; replace HB := hs HB hb; (try clear aX hb)))
 go_loopg [8, 9] k (fun kq v8 v9 w' => ∃ (aa : Int) (s : Int), v8 = .int .i64 aa ∧ v9 = .int .i64 s ∧ Aside0 (spec_l3Left.l0 kq l1 z aa s D G = some r) ∧ Aside0 (kq ≤ k) ∧ Aside0 (Kd.R k36 36 w' w.heap.size (fun k_ => k_ ≠ aE) bg z) ∧ Aside0 (w'.heap[ak]? = some (.cells #[(.slice T D.length X), (.slice Y G.length Z)] 34 (0, 0))) ∧ Aside0 (w'.heap[aE]? = some (.cells #[.int .i64 ab, .int .i64 ac] 36 (0, 0))) ∧ Aside0 (Below w.heap.size w w'))
 case atStart => exact ⟨(0), (0), eqs, eqs, H', ⟨Nat.le_refl _⟩, ⟨by (with_reducible repeat (first | apply Kd.R_alloc | apply Kd.R_drewN | apply Kd.R_drew)); exact Kd.R_mono bh.out (fun _ hk => hk.2)⟩, ⟨bf y.out⟩, ⟨bf J.out⟩, ⟨bs HB.out⟩⟩
 case round =>
  clear H'
  try clear c1
  try clear p2
  try clear c6
  try clear c7
  try clear a7 a8
  try clear ba bc
  try clear a9
  try clear be
  obtain ⟨aa, s, rfl, rfl, HA, au, L, y, J, HB⟩ := hrel
  cases gk with
  | zero => exact absurd HA.out (by simp [spec_l3Left.l0])
  | succ k1 =>
   have H := HA.out
   clear HA
   simp only [spec_l3Left.l0] at H
   by_cases aj : s < (z.length : Int)
   ·rw [if_pos aj] at H
    have bi : decide (s < (z.length : Int)) = true := decide_eq_true aj
    clear aj
    by_cases av : 0 ≤ s
    ·rw [if_pos av] at H
     have bv : decide (0 ≤ s) = true := decide_eq_true av
     clear av
     replace H := Option.bind_eq_some_iff.mp H
     obtain ⟨M, aY, H⟩ := H
     try dsimp -simprocs only at H
     have aZ := am aY
     clear aY
     by_cases aw : 0 ≤ M
     ·rw [if_pos aw] at H
      have bw : decide (0 ≤ M) = true := decide_eq_true aw
      clear aw
      by_cases ax : M < (l1.length : Int)
      ·rw [if_pos ax] at H
       have bz : decide (M < (l1.length : Int)) = true := decide_eq_true ax
       clear ax
       obtain ⟨bq16, hbq16⟩ : ∃ b_ : Bool, b_ = (rdOf false l1 M) := ⟨_, rfl⟩
       replace H : (if bq16 = true then (spec_l3Left.l0 k1 l1 z (wrap64 (aa + 1)) (wrap64 (s + 1)) D G) else (spec_l3Left.l0 k1 l1 z aa (wrap64 (s + 1)) D G)) = some r := by rw [← hbq16] at H; exact H
       have Nbq16 := am hbq16
       clear hbq16
       by_cases ay : bq16 = true
       ·subst ay
        replace H : (spec_l3Left.l0 k1 l1 z (wrap64 (aa + 1)) (wrap64 (s + 1)) D G) = some r := by rw [if_pos rfl] at H; exact H
        have H' := am H
        clear H
        obtain ⟨bA, bB, bj⟩ := Kd.R_slice L.out
        subst bj
        try go_wp2
        replace L := rd_ L
        replace y := bd y
        replace J := bd J
        replace HB := hd HB
        have ad : 0 ≤ (s : Int) := oda
        have ae : s < (z.length : Int) := oda
        obtain ⟨af, aG, aq, ar⟩ := at_T36 (Kd.R_reads' L.out).2.2 s ad ae
        cases aG
        replace ad := eq_true ad
        replace ae := eq_true ae
        have ag : 0 ≤ (M : Int) := oda
        have ah : M < (l1.length : Int) := oda
        obtain ⟨aH, aI, O⟩ := Kd.at_bool aV.out M ag ah
        have ai := O
        (try rw [← Nbq16.out] at O)
        (try rw [← Nbq16.out] at ai)
        cases aI
        replace O := cb HB O
        replace ag := eq_true ag
        replace ah := eq_true ah
        refine sta 9 (fun w' => w'.cell? ⟨ak, 0, none⟩ = some (.slice T D.length X) ∧ w'.cell? ⟨ak, 1, none⟩ = some (.slice Y G.length Z) ∧ w'.cell? (af.add ((s).toNat * 2)) = some (.int .i64 ((rd_T36 z s).f0)) ∧ w'.cell? ⟨(af.add ((s).toNat * 2)).block, (af.add ((s).toNat * 2)).off + 1, none⟩ = some (.int .i64 ((rd_T36 z s).f1)) ∧ w'.cell? (aH.add (M).toNat) = some (.bool true)) [] ⟨cx y 0, cx y 1, aq, ar, (cb HB ai)⟩ (fun hHeld => ?_); refine with_tabW spec_l3Left.tab6 spec_l3Left.bits6 (fun HT_ HW_ => ?_)
        generalize wr.drew = bC at L y J HB aq ar O hHeld ⊢
        refine pu 0 19 ?_
        refine pu 2 21 ?_
        refine pu 3 22 ?_
        refine pu 4 23 ?_
        refine tk 1 20 ?_
        refine tk 5 24 ?_
        refine on 6 25 (fun K hK => ?_)
        refine gs Try.func62 #[.agg #[.slice T D.length X, .slice Y G.length Z], .agg #[.int .i64 ((rd_T36 z s).f0), .int .i64 ((rd_T36 z s).f1)]] ?_
        with_reducible refine (spec_l2At.calls k1 _ _ D _ _ G ((rd_T36 z s).f0) ((rd_T36 z s).f1) M _ ?al ?an ?ao ?ap aZ.out).mono ?_
        (case al => exact Kd.C_below az.out (bs HB.out))
        (case an => exact aA.out)
        (case ao => exact Kd.C_below aC.out (bs HB.out))
        (case ap => exact aD.out)
        rintro e bD ⟨rfl, hb⟩
        have aJ := cw hb hHeld.2.2.1
        have aK := cw hb hHeld.2.2.2.1
        refine ⟨_, rfl, ?_⟩
        replace L := rb L hb
        replace y := bb y hb rfl
        replace J := bb J hb rfl
        replace HB := hs HB hb
        (try clear hb)
        (try clear hb2)
        (try clear hk)
        (try clear hi)
        refine hK.out _ _ ⟨cx y 0, cx y 1, aJ, aK, (cb HB ai)⟩ (fun hHeld => ?_)
        clear hK K
        refine nrm 25 ?_
        refine pu 7 26 ?_
        refine tk 8 27 ?_
        refine dn ?_
        try go_wp2
        go_roundg k1
        case measure => have := au.out; omega
        case rel => exact ⟨(wrap64 (aa + 1)), (wrap64 (s + 1)), eqs, eqs, H', ⟨by have := au.out; omega⟩, ⟨rl L.out⟩, ⟨bf y.out⟩, ⟨bf J.out⟩, ⟨bs HB.out⟩⟩
       ·replace ay := Bool.eq_false_iff.mpr ay
        subst ay
        have H1 : (spec_l3Left.l0 k1 l1 z aa (wrap64 (s + 1)) D G) = some r := by rw [if_neg (show ¬ (false = true) by decide)] at H; exact H
        clear H
        have H := H1
        clear H1
        have H' := am H
        clear H
        obtain ⟨bE, bF, bk⟩ := Kd.R_slice L.out
        subst bk
        try go_wp2
        replace L := rd_ L
        replace y := bd y
        replace J := bd J
        replace HB := hd HB
        have ad : 0 ≤ (s : Int) := oda
        have ae : s < (z.length : Int) := oda
        obtain ⟨af, aG, aq, ar⟩ := at_T36 (Kd.R_reads' L.out).2.2 s ad ae
        cases aG
        replace ad := eq_true ad
        replace ae := eq_true ae
        have ag : 0 ≤ (M : Int) := oda
        have ah : M < (l1.length : Int) := oda
        obtain ⟨aH, aI, O⟩ := Kd.at_bool aV.out M ag ah
        have ai := O
        (try rw [← Nbq16.out] at O)
        (try rw [← Nbq16.out] at ai)
        cases aI
        replace O := cb HB O
        replace ag := eq_true ag
        replace ah := eq_true ah
        refine sta 9 (fun w' => w'.cell? ⟨ak, 0, none⟩ = some (.slice T D.length X) ∧ w'.cell? ⟨ak, 1, none⟩ = some (.slice Y G.length Z) ∧ w'.cell? (af.add ((s).toNat * 2)) = some (.int .i64 ((rd_T36 z s).f0)) ∧ w'.cell? ⟨(af.add ((s).toNat * 2)).block, (af.add ((s).toNat * 2)).off + 1, none⟩ = some (.int .i64 ((rd_T36 z s).f1)) ∧ w'.cell? (aH.add (M).toNat) = some (.bool false)) [] ⟨cx y 0, cx y 1, aq, ar, (cb HB ai)⟩ (fun hHeld => ?_); refine with_tabW spec_l3Left.tab6 spec_l3Left.bits6 (fun HT_ HW_ => ?_)
        generalize wr.drew = bG at L y J HB aq ar O hHeld ⊢
        refine pu 0 19 ?_
        refine pu 2 21 ?_
        refine pu 3 22 ?_
        refine pu 4 23 ?_
        refine tk 1 20 ?_
        refine tk 5 24 ?_
        refine on 6 25 (fun K hK => ?_)
        refine gs Try.func62 #[.agg #[.slice T D.length X, .slice Y G.length Z], .agg #[.int .i64 ((rd_T36 z s).f0), .int .i64 ((rd_T36 z s).f1)]] ?_
        with_reducible refine (spec_l2At.calls k1 _ _ D _ _ G ((rd_T36 z s).f0) ((rd_T36 z s).f1) M _ ?al ?an ?ao ?ap aZ.out).mono ?_
        (case al => exact Kd.C_below az.out (bs HB.out))
        (case an => exact aA.out)
        (case ao => exact Kd.C_below aC.out (bs HB.out))
        (case ap => exact aD.out)
        rintro e bH ⟨rfl, hb⟩
        have aJ := cw hb hHeld.2.2.1
        have aK := cw hb hHeld.2.2.2.1
        refine ⟨_, rfl, ?_⟩
        replace L := rb L hb
        replace y := bb y hb rfl
        replace J := bb J hb rfl
        replace HB := hs HB hb
        (try clear hb)
        (try clear hb2)
        (try clear hk)
        (try clear hi)
        refine hK.out _ _ ⟨cx y 0, cx y 1, aJ, aK, (cb HB ai)⟩ (fun hHeld => ?_)
        clear hK K
        refine nrm 25 ?_
        refine pu 7 26 ?_
        refine tk 8 27 ?_
        refine dn ?_
        try go_wp2
        go_roundg k1
        case measure => have := au.out; omega
        case rel => exact ⟨(aa), (wrap64 (s + 1)), eqs, eqs, H', ⟨by have := au.out; omega⟩, ⟨rl L.out⟩, ⟨bf y.out⟩, ⟨bf J.out⟩, ⟨bs HB.out⟩⟩
      ·rw [if_neg ax] at H
       exact absurd H (by simp)
     ·rw [if_neg aw] at H
      exact absurd H (by simp)
    ·rw [if_neg av] at H
     exact absurd H (by simp)
   ·rw [if_neg aj] at H
    have bi : decide (s < (z.length : Int)) = false := decide_eq_false aj
    clear aj
    obtain rfl := Option.some.inj H
    obtain ⟨bI, bJ, bl⟩ := Kd.R_slice L.out
    subst bl
    go_wp2
    go_ret
    exact ⟨eqr, bs HB.out⟩

end Go.Proofs.Ytohmemckdogljaa.QFnExactWalkCore
