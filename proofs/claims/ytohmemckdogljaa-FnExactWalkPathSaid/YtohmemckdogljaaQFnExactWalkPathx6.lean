/- Contracts of the Go functions that this law reaches: each does what its plain Lean function says. No condition. -/
import Derived.Test.YtohmemckdogljaaQFnExactWalkPathx0
import Derived.Test.YtohmemckdogljaaQFnExactWalkPathx1
import Derived.Test.YtohmemckdogljaaQFnExactWalkPathx2
import Derived.Test.YtohmemckdogljaaQFnExactWalkPathx5
namespace Go.Proofs.Ytohmemckdogljaa.QFnExactWalkPath
open Go.RowKit Go.Proofs.YtohmemckdogljaaW.PrintWords Go.Proofs.YtohmemckdogljaaW.PrintLast Go.Proofs.YtohmemckdogljaaW.PrintMore Go.Proofs.Ytohmemckdogljaa.Bl
attribute [local go_sem] max2_int min2_int max_two min_two max_three min_three max_four min_four   -- for this text's walks alone
set_option linter.unusedVariables false
set_option linter.unusedSimpArgs false
set_option maxHeartbeats 8000000
set_option maxRecDepth 100000

attribute [local go_sem high] eqA36
/-! ### spec_l2Near: function 64 -/
mutual
def spec_l2Near.l0 : Nat → Int → List (S36) → List (S56) → Int → Int → List (S36) → List (S56) → Option ((List (S36)))
 | 0, _, _, _, _, _, _, _ => none
 | k + 1, s, I, y, z, D, G, J => if s < (y.length : Int) then (if 0 ≤ s then (if (((rd_T56 y s).f1.f0) == z && (((rd_T56 y s).f1.f1) == D)) = true then (spec_l2Near.j1 k s I y z D G J ((rd_T56 y s).f2.f0) ((rd_T56 y s).f2.f1)) else (if (!(((rd_T56 y s).f2.f0) == z) || (!(((rd_T56 y s).f2.f1) == D))) = true then (spec_l2Near.l0 k (wrap64 (s + 1)) I y z D G J) else (spec_l2Near.j1 k s I y z D G J ((rd_T56 y s).f1.f0) ((rd_T56 y s).f1.f1)))) else (none)) else ((some (([] : List (S36)) : List (S36))).bind fun L => (if L.length + G.length < 8796093022208 then (some (L ++ G)) else (none)))
def spec_l2Near.j1 : Nat → Int → List (S36) → List (S56) → Int → Int → List (S36) → List (S56) → Int → Int → Option ((List (S36)))
 | 0, _, _, _, _, _, _, _, _, _ => none
 | k + 1, z, D, G, I, J, s, y, L, M => (spec_l2At.f k s y L M).bind fun T => (if T < 0 then ((spec_l2PutNode.f k s y L M).bind fun O => (spec_l2Near.l0 k (wrap64 (z + 1)) D G I J O.1 O.2)) else (spec_l2Near.l0 k (wrap64 (z + 1)) D G I J s y))
end
def spec_l2Near.f (k : Nat) (s : List (S36)) (y : List (S56)) (z : Int) (D : Int) : Option ((List (S36))) := spec_l2Near.l0 k 0 s y z D ([] : List (S36)) ([] : List (S56))
theorem spec_l2Near.calls (k : Nat) (a5 : Option Addr) (a6 : Nat) (ar : List (S36)) (bh : Option Addr) (a7 : Nat) (z : List (S56)) (X : Int) (Y : Int) (r : List (S36)) (w : World) (ck : Kd.C k36 w a5 ar.length ar) (cl : ar.length ≤ a6) (cm : Kd.C k56 w bh z.length z) (cn : z.length ≤ a7) (h : spec_l2Near.f k ar z X Y = some r) :
  Calls Try.prog 64 #[.agg #[.slice a5 ar.length a6, .slice bh z.length a7], .agg #[.int .i64 X, .int .i64 Y]] w fun e w' => ∃ co : Value, e = .returned (co) ∧ Kd.R k36 36 w' w.heap.size (fun _ => True) co r ∧ Below w.heap.size w w' := by
 have hu34 := Try.underlying34
 have hu36 := Try.underlying36
 have dR := am ck
 have dS := am cl
 clear ck cl
 have bG := am cm
 have dT := am cn
 clear cm cn
 have HB := am (Below.refl w.heap.size w)
 have H := h; unfold spec_l2Near.f at H
 clear h
 have H' := am H
 clear H
 go_enter Try.func64, Try.ntmps64
 go_wp2_with (first | ((with_reducible refine gd 2 rfl ?_); refine bx 2 (cs := #[.slice a5 ar.length a6, .slice bh z.length a7]) (t := 34) ?_; intro bH hg w3 hbox hb; have D := am hbox; have cp := gwb HB hg; replace HB := hs HB hb; clear hb hbox hg) | ((with_reducible refine gd 3 rfl ?_); refine bx 3 (cs := #[.int .i64 X, .int .i64 Y]) (t := 36) ?_; intro aa hg w4 hbox hb; have I := am hbox; have ct := gwb HB hg; replace HB := hs HB hb; have a8 := nq D hg; have a9 := nq' D hg; replace D := bb D hb rfl; clear hb hbox hg) | ((with_reducible refine gd 5 rfl ?_); refine bx 5 (cs := #[.slice none 0 0, .slice none 0 0]) (t := 34) ?_; intro bI hg w5 hbox hb; have J := am hbox; have cu := gwb HB hg; replace HB := hs HB hb; have au := nq D hg; have av := nq' D hg; replace D := bb D hb rfl; have an := nq I hg; have ao := nq' I hg; replace I := bb I hb rfl; clear hb hbox hg; have cv := av.out; have cy := au.out; have cz := ao.out; have cA := an.out; obtain ⟨bJ, bK⟩ := bc2 (w := w5) J.out; have bL := blk_frozen J.out))
 repeat (go_quiet (first | ((with_reducible refine gd 2 rfl ?_); refine bx 2 (cs := #[.slice a5 ar.length a6, .slice bh z.length a7]) (t := 34) ?_; intro bH hg w3 hbox hb; have D := am hbox; have cp := gwb HB hg; replace HB := hs HB hb; clear hb hbox hg) | ((with_reducible refine gd 3 rfl ?_); refine bx 3 (cs := #[.int .i64 X, .int .i64 Y]) (t := 36) ?_; intro aa hg w4 hbox hb; have I := am hbox; have ct := gwb HB hg; replace HB := hs HB hb; have a8 := nq D hg; have a9 := nq' D hg; replace D := bb D hb rfl; clear hb hbox hg) | ((with_reducible refine gd 5 rfl ?_); refine bx 5 (cs := #[.slice none 0 0, .slice none 0 0]) (t := 34) ?_; intro bI hg w5 hbox hb; have J := am hbox; have cu := gwb HB hg; replace HB := hs HB hb; have au := nq D hg; have av := nq' D hg; replace D := bb D hb rfl; have an := nq I hg; have ao := nq' I hg; replace I := bb I hb rfl; clear hb hbox hg; have cv := av.out; have cy := au.out; have cz := ao.out; have cA := an.out; obtain ⟨bJ, bK⟩ := bc2 (w := w5) J.out; have bL := blk_frozen J.out)); try go_wp2_with (first | ((with_reducible refine gd 2 rfl ?_); refine bx 2 (cs := #[.slice a5 ar.length a6, .slice bh z.length a7]) (t := 34) ?_; intro bH hg w3 hbox hb; have D := am hbox; have cp := gwb HB hg; replace HB := hs HB hb; clear hb hbox hg) | ((with_reducible refine gd 3 rfl ?_); refine bx 3 (cs := #[.int .i64 X, .int .i64 Y]) (t := 36) ?_; intro aa hg w4 hbox hb; have I := am hbox; have ct := gwb HB hg; replace HB := hs HB hb; have a8 := nq D hg; have a9 := nq' D hg; replace D := bb D hb rfl; clear hb hbox hg) | ((with_reducible refine gd 5 rfl ?_); refine bx 5 (cs := #[.slice none 0 0, .slice none 0 0]) (t := 34) ?_; intro bI hg w5 hbox hb; have J := am hbox; have cu := gwb HB hg; replace HB := hs HB hb; have au := nq D hg; have av := nq' D hg; replace D := bb D hb rfl; have an := nq I hg; have ao := nq' I hg; replace I := bb I hb rfl; clear hb hbox hg; have cv := av.out; have cy := au.out; have cz := ao.out; have cA := an.out; obtain ⟨bJ, bK⟩ := bc2 (w := w5) J.out; have bL := blk_frozen J.out)))
 go_loopg [6] k (fun kq v6 w' => ∃ (y : Int) (T : List (S36)) (ab : List (S56)) (bi : Value) (bj : Value), v6 = .int .i64 y ∧ Aside0 (spec_l2Near.l0 kq y ar z X Y T ab = some r) ∧ Aside0 (kq ≤ k) ∧ Aside0 (Kd.R k36 36 w' w.heap.size (fun k_ => k_ ≠ aa) bi T) ∧ Aside0 (Kd.R k56 56 w' w.heap.size (fun _ => True) bj ab) ∧ Aside0 (w'.heap[bH]? = some (.cells #[(.slice a5 ar.length a6), (.slice bh z.length a7)] 34 (0, 0))) ∧ Aside0 (w'.heap[aa]? = some (.cells #[.int .i64 X, .int .i64 Y] 36 (0, 0))) ∧ Aside0 (w'.heap[bI]? = some (.cells #[bi, bj] 34 (0, 0))) ∧ Aside0 (Below w.heap.size w w'))
 case atStart => exact ⟨(0), (([] : List (S36))), (([] : List (S56))), (.slice none 0 0), (.slice none 0 0), eqs, H', ⟨Nat.le_refl _⟩, ⟨by first | exact Kd.R_nil _ _ _ _ _ | exact Kd.N_nil _ _ _ _ _ | exact Kd.V_nil _ _ _ _ _ | exact Kd.Q_nil _ _ _ _ _ | exact Kd.S_nil _ _ _ _ _⟩, ⟨by first | exact Kd.R_nil _ _ _ _ _ | exact Kd.N_nil _ _ _ _ _ | exact Kd.V_nil _ _ _ _ _ | exact Kd.Q_nil _ _ _ _ _ | exact Kd.S_nil _ _ _ _ _⟩, ⟨bf D.out⟩, ⟨bf I.out⟩, ⟨by (with_reducible repeat (first | refine blk_drewN ?_ _ | refine blk_drew ?_ | refine blk_alloc ?_ _)); refine blk_put (cs := #[.slice none 0 0, .slice none 0 0]) ?_ 1 _ rfl; (with_reducible repeat (first | refine blk_drewN ?_ _ | refine blk_drew ?_ | refine blk_alloc ?_ _)); refine blk_put (cs := #[.slice none 0 0, .slice none 0 0]) ?_ 0 _ rfl; exact bf J.out⟩, ⟨bs HB.out⟩⟩
 case round =>
  clear H'
  try clear p2
  try clear c6
  try clear c7
  try clear bJ bK
  try clear bL
  obtain ⟨y, T, ab, bi, bj, rfl, HA, aI, L, M, D, I, J, HB⟩ := hrel
  cases gk with
  | zero => exact absurd HA.out (by simp [spec_l2Near.l0])
  | succ k1 =>
   have H := HA.out
   clear HA
   simp only [spec_l2Near.l0] at H
   by_cases c9 : y < (z.length : Int)
   ·rw [if_pos c9] at H
    have cB : decide (y < (z.length : Int)) = true := decide_eq_true c9
    clear c9
    by_cases bu : 0 ≤ y
    ·rw [if_pos bu] at H
     have df : decide (0 ≤ y) = true := decide_eq_true bu
     clear bu
     have bU := am H
     clear H
     have dU := a8.out
     have dV := a9.out
     have dW := au.out
     have dX := av.out
     obtain ⟨dg, dh⟩ := bc2 (w := wr) D.out
     have di := blk_frozen D.out
     have bM : 0 ≤ (y : Int) := oda
     have bN : y < (z.length : Int) := oda
     obtain ⟨az, dj, bV, bW, bX, bY, bZ⟩ := at_T56 bG.out y bM bN
     cases dj
     replace bV := cb HB bV
     replace bW := cb HB bW
     replace bX := cb HB bX
     replace bY := cb HB bY
     replace bZ := cb HB bZ
     replace bM := eq_true bM
     replace bN := eq_true bN
     go_upto_if 24 with (first | ((with_reducible refine gd 7 rfl ?_); refine bx 7 (cs := #[.int .i64 0, .int .i64 0]) (t := 36) ?_; intro G hg Z hbox hb; replace L := am (Kd.R_below (Kd.R_elderB (rl L.out) G (Nat.le_of_eq hg.symm)) hb); replace M := rb M hb; have O := am hbox; have aJ := gwb HB hg; replace HB := hs HB hb; have aA := nq D hg; have aC := nq' D hg; replace D := bb D hb rfl; have aD := nq I hg; have aE := nq' I hg; replace I := bb I hb rfl; have aK := nq J hg; have aM := nq' J hg; replace J := bb J hb rfl; clear hb hbox hg; have cC := aC.out; have cD := aA.out; have cE := aE.out; have cF := aD.out; have cG := aM.out; have cH := aK.out; obtain ⟨b0, b1⟩ := bc2 (w := Z) O.out; have b2 := blk_frozen O.out; have cI := an.out; have cJ := ao.out; obtain ⟨b3, b4⟩ := bc2 (w := Z) I.out; have b5 := blk_frozen I.out))
     repeat (go_quiet (first | ((with_reducible refine gd 7 rfl ?_); refine bx 7 (cs := #[.int .i64 0, .int .i64 0]) (t := 36) ?_; intro G hg Z hbox hb; replace L := am (Kd.R_below (Kd.R_elderB (rl L.out) G (Nat.le_of_eq hg.symm)) hb); replace M := rb M hb; have O := am hbox; have aJ := gwb HB hg; replace HB := hs HB hb; have aA := nq D hg; have aC := nq' D hg; replace D := bb D hb rfl; have aD := nq I hg; have aE := nq' I hg; replace I := bb I hb rfl; have aK := nq J hg; have aM := nq' J hg; replace J := bb J hb rfl; clear hb hbox hg; have cC := aC.out; have cD := aA.out; have cE := aE.out; have cF := aD.out; have cG := aM.out; have cH := aK.out; obtain ⟨b0, b1⟩ := bc2 (w := Z) O.out; have b2 := blk_frozen O.out; have cI := an.out; have cJ := ao.out; obtain ⟨b3, b4⟩ := bc2 (w := Z) I.out; have b5 := blk_frozen I.out)); go_upto_if 24 with (first | ((with_reducible refine gd 7 rfl ?_); refine bx 7 (cs := #[.int .i64 0, .int .i64 0]) (t := 36) ?_; intro G hg Z hbox hb; replace L := am (Kd.R_below (Kd.R_elderB (rl L.out) G (Nat.le_of_eq hg.symm)) hb); replace M := rb M hb; have O := am hbox; have aJ := gwb HB hg; replace HB := hs HB hb; have aA := nq D hg; have aC := nq' D hg; replace D := bb D hb rfl; have aD := nq I hg; have aE := nq' I hg; replace I := bb I hb rfl; have aK := nq J hg; have aM := nq' J hg; replace J := bb J hb rfl; clear hb hbox hg; have cC := aC.out; have cD := aA.out; have cE := aE.out; have cF := aD.out; have cG := aM.out; have cH := aK.out; obtain ⟨b0, b1⟩ := bc2 (w := Z) O.out; have b2 := blk_frozen O.out; have cI := an.out; have cJ := ao.out; obtain ⟨b3, b4⟩ := bc2 (w := Z) I.out; have b5 := blk_frozen I.out)))
     (try simp only [Act.put, List.setIfInBounds_toArray, List.set_cons_zero, List.set_cons_succ])
     go_cut [] (fun wc => ∃ (kq : Nat) (ap : Int) (aq : Int), Aside0 (spec_l2Near.j1 kq y ar z X Y T ab ap aq = some r) ∧ Aside0 (kq ≤ k1) ∧ Aside0 (Kd.R k36 36 wc w.heap.size (fun k_ => k_ ≠ aa ∧ k_ ≠ G) bi T) ∧ Aside0 (Kd.R k56 56 wc w.heap.size (fun _ => True) bj ab) ∧ Aside0 (wc.heap[bH]? = some (.cells #[(.slice a5 ar.length a6), (.slice (some az) z.length a7)] 34 (0, 0))) ∧ Aside0 (wc.heap[aa]? = some (.cells #[.int .i64 X, .int .i64 Y] 36 (0, 0))) ∧ Aside0 (wc.heap[bI]? = some (.cells #[bi, bj] 34 (0, 0))) ∧ Aside0 (wc.heap[G]? = some (.cells #[.int .i64 ap, .int .i64 aq] 36 (0, 0))) ∧ Aside0 (Below w.heap.size w wc))
     case first =>
      have H := bU.out
      clear bU
      by_cases aw : (((rd_T56 z y).f1.f0) == X && (((rd_T56 z y).f1.f1) == Y)) = true
      ·rw [if_pos aw] at H
       have bk : (((rd_T56 z y).f1.f0) == X && (((rd_T56 z y).f1.f1) == Y)) = true := aw
       (try (have cK : decide (((rd_T56 z y).f1.f0) = X && (((rd_T56 z y).f1.f1) == Y)) = true := by simpa using aw))
       (try (have cL : (((rd_T56 z y).f1.f0) == X && (((rd_T56 z y).f1.f1) == Y)) = true := by simpa using aw))
       clear aw
       (first | rw [bk] | (simp only [i64_w, i32_w]; rw [bk]) | skip)
       have H' := am H
       clear H
       have dY := a8.out
       have dZ := a9.out
       have d0 := au.out
       have d1 := av.out
       have d2 := aA.out
       have d3 := aC.out
       obtain ⟨dk, dl⟩ := bc2 (w := Z) D.out
       have dm := blk_frozen D.out
       have bO : 0 ≤ (y : Int) := oda
       have bP : y < (z.length : Int) := oda
       obtain ⟨dp, dq, aG, aN, aP, aQ, aT⟩ := at_T56 bG.out y bO bP
       obtain rfl : az = dp := (by injection dq)
       have hn178_0 : az.block ≠ G := Nat.ne_of_lt (Nat.lt_of_lt_of_le (by have := World.block_lt_of_cell? _ _ aG; first | rwa [add_block] at this | exact this) aJ.out)
       have hn178_1 : az.block ≠ G := Nat.ne_of_lt (Nat.lt_of_lt_of_le (by have := World.block_lt_of_cell? _ _ aG; first | rwa [add_block] at this | exact this) aJ.out)
       replace aG := cb HB aG
       replace aN := cb HB aN
       replace aP := cb HB aP
       replace aQ := cb HB aQ
       replace aT := cb HB aT
       replace aG := (cell_far (p := ⟨G, 0, none⟩) (by first | (rw [add_block]; exact hn178_0) | (show (Addr.add _ _).block ≠ _; rw [add_block]; exact hn178_0) | exact hn178_0) (.int .i64 ((rd_T56 z y).f1.f0))).trans aG
       replace aN := (cell_far (p := ⟨G, 0, none⟩) (by first | (rw [add_block]; exact hn178_0) | (show (Addr.add _ _).block ≠ _; rw [add_block]; exact hn178_0) | exact hn178_0) (.int .i64 ((rd_T56 z y).f1.f0))).trans aN
       replace aP := (cell_far (p := ⟨G, 0, none⟩) (by first | (rw [add_block]; exact hn178_0) | (show (Addr.add _ _).block ≠ _; rw [add_block]; exact hn178_0) | exact hn178_0) (.int .i64 ((rd_T56 z y).f1.f0))).trans aP
       replace aQ := (cell_far (p := ⟨G, 0, none⟩) (by first | (rw [add_block]; exact hn178_0) | (show (Addr.add _ _).block ≠ _; rw [add_block]; exact hn178_0) | exact hn178_0) (.int .i64 ((rd_T56 z y).f1.f0))).trans aQ
       replace aT := (cell_far (p := ⟨G, 0, none⟩) (by first | (rw [add_block]; exact hn178_0) | (show (Addr.add _ _).block ≠ _; rw [add_block]; exact hn178_0) | exact hn178_0) (.int .i64 ((rd_T56 z y).f1.f0))).trans aT
       replace aG := (cell_far (p := ⟨G, 1, none⟩) (by first | (rw [add_block]; exact hn178_1) | (show (Addr.add _ _).block ≠ _; rw [add_block]; exact hn178_1) | exact hn178_1) (.int .i64 ((rd_T56 z y).f1.f1))).trans aG
       replace aN := (cell_far (p := ⟨G, 1, none⟩) (by first | (rw [add_block]; exact hn178_1) | (show (Addr.add _ _).block ≠ _; rw [add_block]; exact hn178_1) | exact hn178_1) (.int .i64 ((rd_T56 z y).f1.f1))).trans aN
       replace aP := (cell_far (p := ⟨G, 1, none⟩) (by first | (rw [add_block]; exact hn178_1) | (show (Addr.add _ _).block ≠ _; rw [add_block]; exact hn178_1) | exact hn178_1) (.int .i64 ((rd_T56 z y).f1.f1))).trans aP
       replace aQ := (cell_far (p := ⟨G, 1, none⟩) (by first | (rw [add_block]; exact hn178_1) | (show (Addr.add _ _).block ≠ _; rw [add_block]; exact hn178_1) | exact hn178_1) (.int .i64 ((rd_T56 z y).f1.f1))).trans aQ
       replace aT := (cell_far (p := ⟨G, 1, none⟩) (by first | (rw [add_block]; exact hn178_1) | (show (Addr.add _ _).block ≠ _; rw [add_block]; exact hn178_1) | exact hn178_1) (.int .i64 ((rd_T56 z y).f1.f1))).trans aT
       (try have hy178_0 := fun (n_ : Nat) => (show ((((Z.drewN n_).setCell ⟨G, 0, none⟩ (.int .i64 ((rd_T56 z y).f1.f0))).setCell ⟨G, 1, none⟩ (.int .i64 ((rd_T56 z y).f1.f1)))).cell? _ = some _ from aG))
       (try have hy178_1 := fun (n_ : Nat) => (show ((((Z.drewN n_).setCell ⟨G, 0, none⟩ (.int .i64 ((rd_T56 z y).f1.f0))).setCell ⟨G, 1, none⟩ (.int .i64 ((rd_T56 z y).f1.f1)))).cell? _ = some _ from aN))
       (try have hy178_2 := fun (n_ : Nat) => (show ((((Z.drewN n_).setCell ⟨G, 0, none⟩ (.int .i64 ((rd_T56 z y).f1.f0))).setCell ⟨G, 1, none⟩ (.int .i64 ((rd_T56 z y).f1.f1)))).cell? _ = some _ from aP))
       (try have hy178_3 := fun (n_ : Nat) => (show ((((Z.drewN n_).setCell ⟨G, 0, none⟩ (.int .i64 ((rd_T56 z y).f1.f0))).setCell ⟨G, 1, none⟩ (.int .i64 ((rd_T56 z y).f1.f1)))).cell? _ = some _ from aQ))
       (try have hy178_4 := fun (n_ : Nat) => (show ((((Z.drewN n_).setCell ⟨G, 0, none⟩ (.int .i64 ((rd_T56 z y).f1.f0))).setCell ⟨G, 1, none⟩ (.int .i64 ((rd_T56 z y).f1.f1)))).cell? _ = some _ from aT))
       clear hn178_0
       clear hn178_1
       replace bO := eq_true bO
       replace bP := eq_true bP
       have d4 := aE.out
       have d5 := aD.out
       have d6 := aM.out
       have d7 := aK.out
       obtain ⟨dr, dt⟩ := bc2 (w := Z) O.out
       have du := blk_frozen O.out
       go_wp2
       repeat (go_quiet (fail); try go_wp2)
       go_meet
       case rel => exact ⟨_, ((rd_T56 z y).f2.f0), ((rd_T56 z y).f2.f1), H', ⟨by have := aI.out; first | omega | exact Nat.le_refl _⟩, ⟨by (with_reducible repeat (first | apply Kd.R_alloc | apply Kd.R_drewN | apply Kd.R_drew)); exact Kd.R_mono (Kd.R_far (p := ⟨G, 1, none⟩) (Kd.R_far (p := ⟨G, 0, none⟩) (Kd.R_far (p := ⟨G, 1, none⟩) (Kd.R_far (p := ⟨G, 0, none⟩) (Kd.R_mono L.out (fun k_ hk => (⟨hk, hk.2⟩ : _ ∧ k_ ≠ G))) (fun _ hk => hk.2) (.int .i64 ((rd_T56 z y).f1.f0))) (fun _ hk => hk.2) (.int .i64 ((rd_T56 z y).f1.f1))) (fun _ hk => hk.2) (.int .i64 ((rd_T56 z y).f2.f0))) (fun _ hk => hk.2) (.int .i64 ((rd_T56 z y).f2.f1))) (fun _ hk => ⟨hk.1.1, hk.1.2⟩)⟩, ⟨Kd.R_mono (rt M.out O.out (by decide)) (fun _ hk => trivial)⟩, ⟨bf D.out⟩, ⟨bf I.out⟩, ⟨bf J.out⟩, ⟨by (with_reducible repeat (first | refine blk_drewN ?_ _ | refine blk_drew ?_ | refine blk_alloc ?_ _)); refine blk_put (cs := #[.int .i64 ((rd_T56 z y).f2.f0), .int .i64 ((rd_T56 z y).f1.f1)]) ?_ 1 _ rfl; (with_reducible repeat (first | refine blk_drewN ?_ _ | refine blk_drew ?_ | refine blk_alloc ?_ _)); refine blk_put (cs := #[.int .i64 ((rd_T56 z y).f1.f0), .int .i64 ((rd_T56 z y).f1.f1)]) ?_ 0 _ rfl; (with_reducible repeat (first | refine blk_drewN ?_ _ | refine blk_drew ?_ | refine blk_alloc ?_ _)); refine blk_put (cs := #[.int .i64 ((rd_T56 z y).f1.f0), .int .i64 0]) ?_ 1 _ rfl; (with_reducible repeat (first | refine blk_drewN ?_ _ | refine blk_drew ?_ | refine blk_alloc ?_ _)); refine blk_put (cs := #[.int .i64 0, .int .i64 0]) ?_ 0 _ rfl; exact bf O.out⟩, ⟨bs HB.out⟩⟩
      ·rw [if_neg aw] at H
       have bk : (((rd_T56 z y).f1.f0) == X && (((rd_T56 z y).f1.f1) == Y)) = false := by simpa using aw
       (try (have cK : decide (((rd_T56 z y).f1.f0) = X && (((rd_T56 z y).f1.f1) == Y)) = false := by simpa using aw))
       (try (have cL : (((rd_T56 z y).f1.f0) == X && (((rd_T56 z y).f1.f1) == Y)) = false := by simpa using aw))
       (try (have d8 : ¬ (((rd_T56 z y).f1.f0) = X && (((rd_T56 z y).f1.f1) == Y)) := by simpa using aw))
       clear aw
       (first | rw [bk] | (simp only [i64_w, i32_w]; rw [bk]) | skip)
       by_cases ba : (!(((rd_T56 z y).f2.f0) == X) || (!(((rd_T56 z y).f2.f1) == Y))) = true
       ·rw [if_pos ba] at H
        have cM : (!(((rd_T56 z y).f2.f0) == X) || (!(((rd_T56 z y).f2.f1) == Y))) = true := ba
        clear ba
        have H' := am H
        clear H
        have d9 := a8.out
        have ea := a9.out
        have eb := au.out
        have ec := av.out
        have ed := aA.out
        have ee := aC.out
        obtain ⟨dv, dw⟩ := bc2 (w := Z) D.out
        have dx := blk_frozen D.out
        have aU : 0 ≤ (y : Int) := oda
        have aV : y < (z.length : Int) := oda
        obtain ⟨b6, b7, ac, ai, aj, ak, al⟩ := at_T56 bG.out y aU aV
        obtain rfl : az = b6 := (by injection b7)
        have hn179_0 : az.block ≠ G := Nat.ne_of_lt (Nat.lt_of_lt_of_le (by have := World.block_lt_of_cell? _ _ ac; first | rwa [add_block] at this | exact this) aJ.out)
        have hn179_1 : az.block ≠ G := Nat.ne_of_lt (Nat.lt_of_lt_of_le (by have := World.block_lt_of_cell? _ _ ac; first | rwa [add_block] at this | exact this) aJ.out)
        replace ac := cb HB ac
        replace ai := cb HB ai
        replace aj := cb HB aj
        replace ak := cb HB ak
        replace al := cb HB al
        replace ac := (cell_far (p := ⟨G, 0, none⟩) (by first | (rw [add_block]; exact hn179_0) | (show (Addr.add _ _).block ≠ _; rw [add_block]; exact hn179_0) | exact hn179_0) (.int .i64 ((rd_T56 z y).f1.f0))).trans ac
        replace ai := (cell_far (p := ⟨G, 0, none⟩) (by first | (rw [add_block]; exact hn179_0) | (show (Addr.add _ _).block ≠ _; rw [add_block]; exact hn179_0) | exact hn179_0) (.int .i64 ((rd_T56 z y).f1.f0))).trans ai
        replace aj := (cell_far (p := ⟨G, 0, none⟩) (by first | (rw [add_block]; exact hn179_0) | (show (Addr.add _ _).block ≠ _; rw [add_block]; exact hn179_0) | exact hn179_0) (.int .i64 ((rd_T56 z y).f1.f0))).trans aj
        replace ak := (cell_far (p := ⟨G, 0, none⟩) (by first | (rw [add_block]; exact hn179_0) | (show (Addr.add _ _).block ≠ _; rw [add_block]; exact hn179_0) | exact hn179_0) (.int .i64 ((rd_T56 z y).f1.f0))).trans ak
        replace al := (cell_far (p := ⟨G, 0, none⟩) (by first | (rw [add_block]; exact hn179_0) | (show (Addr.add _ _).block ≠ _; rw [add_block]; exact hn179_0) | exact hn179_0) (.int .i64 ((rd_T56 z y).f1.f0))).trans al
        replace ac := (cell_far (p := ⟨G, 1, none⟩) (by first | (rw [add_block]; exact hn179_1) | (show (Addr.add _ _).block ≠ _; rw [add_block]; exact hn179_1) | exact hn179_1) (.int .i64 ((rd_T56 z y).f1.f1))).trans ac
        replace ai := (cell_far (p := ⟨G, 1, none⟩) (by first | (rw [add_block]; exact hn179_1) | (show (Addr.add _ _).block ≠ _; rw [add_block]; exact hn179_1) | exact hn179_1) (.int .i64 ((rd_T56 z y).f1.f1))).trans ai
        replace aj := (cell_far (p := ⟨G, 1, none⟩) (by first | (rw [add_block]; exact hn179_1) | (show (Addr.add _ _).block ≠ _; rw [add_block]; exact hn179_1) | exact hn179_1) (.int .i64 ((rd_T56 z y).f1.f1))).trans aj
        replace ak := (cell_far (p := ⟨G, 1, none⟩) (by first | (rw [add_block]; exact hn179_1) | (show (Addr.add _ _).block ≠ _; rw [add_block]; exact hn179_1) | exact hn179_1) (.int .i64 ((rd_T56 z y).f1.f1))).trans ak
        replace al := (cell_far (p := ⟨G, 1, none⟩) (by first | (rw [add_block]; exact hn179_1) | (show (Addr.add _ _).block ≠ _; rw [add_block]; exact hn179_1) | exact hn179_1) (.int .i64 ((rd_T56 z y).f1.f1))).trans al
        (try have hy179_0 := fun (n_ : Nat) => (show ((((Z.drewN n_).setCell ⟨G, 0, none⟩ (.int .i64 ((rd_T56 z y).f1.f0))).setCell ⟨G, 1, none⟩ (.int .i64 ((rd_T56 z y).f1.f1)))).cell? _ = some _ from ac))
        (try have hy179_1 := fun (n_ : Nat) => (show ((((Z.drewN n_).setCell ⟨G, 0, none⟩ (.int .i64 ((rd_T56 z y).f1.f0))).setCell ⟨G, 1, none⟩ (.int .i64 ((rd_T56 z y).f1.f1)))).cell? _ = some _ from ai))
        (try have hy179_2 := fun (n_ : Nat) => (show ((((Z.drewN n_).setCell ⟨G, 0, none⟩ (.int .i64 ((rd_T56 z y).f1.f0))).setCell ⟨G, 1, none⟩ (.int .i64 ((rd_T56 z y).f1.f1)))).cell? _ = some _ from aj))
        (try have hy179_3 := fun (n_ : Nat) => (show ((((Z.drewN n_).setCell ⟨G, 0, none⟩ (.int .i64 ((rd_T56 z y).f1.f0))).setCell ⟨G, 1, none⟩ (.int .i64 ((rd_T56 z y).f1.f1)))).cell? _ = some _ from ak))
        (try have hy179_4 := fun (n_ : Nat) => (show ((((Z.drewN n_).setCell ⟨G, 0, none⟩ (.int .i64 ((rd_T56 z y).f1.f0))).setCell ⟨G, 1, none⟩ (.int .i64 ((rd_T56 z y).f1.f1)))).cell? _ = some _ from al))
        clear hn179_0
        clear hn179_1
        replace aU := eq_true aU
        replace aV := eq_true aV
        have ef := an.out
        have eg := ao.out
        have eh := aD.out
        have ei := aE.out
        obtain ⟨dy, dz⟩ := bc2 (w := Z) I.out
        have dA := blk_frozen I.out
        go_wp2
        repeat (go_quiet (fail); try go_wp2)
        go_roundg k1
        case measure => have := aI.out; omega
        case rel => exact ⟨(wrap64 (y + 1)), (T), (ab), (bi), (bj), eqs, H', ⟨by have := aI.out; omega⟩, ⟨by (with_reducible repeat (first | apply Kd.R_alloc | apply Kd.R_drewN | apply Kd.R_drew)); exact Kd.R_mono (Kd.R_far (p := ⟨G, 1, none⟩) (Kd.R_far (p := ⟨G, 0, none⟩) (Kd.R_mono L.out (fun k_ hk => (⟨hk, hk.2⟩ : _ ∧ k_ ≠ G))) (fun _ hk => hk.2) (.int .i64 ((rd_T56 z y).f1.f0))) (fun _ hk => hk.2) (.int .i64 ((rd_T56 z y).f1.f1))) (fun _ hk => hk.1.1)⟩, ⟨Kd.R_mono (rt M.out O.out (by decide)) (fun _ hk => trivial)⟩, ⟨bf D.out⟩, ⟨bf I.out⟩, ⟨bf J.out⟩, ⟨bs HB.out⟩⟩
       ·rw [if_neg ba] at H
        have cM : (!(((rd_T56 z y).f2.f0) == X) || (!(((rd_T56 z y).f2.f1) == Y))) = false := by simpa using ba
        clear ba
        have H' := am H
        clear H
        have ej := a8.out
        have ek := a9.out
        have el := au.out
        have em := av.out
        have en := aA.out
        have eo := aC.out
        obtain ⟨dB, dC⟩ := bc2 (w := Z) D.out
        have dD := blk_frozen D.out
        have aU : 0 ≤ (y : Int) := oda
        have aV : y < (z.length : Int) := oda
        obtain ⟨b6, b7, ac, ai, aj, ak, al⟩ := at_T56 bG.out y aU aV
        obtain rfl : az = b6 := (by injection b7)
        have hn179_0 : az.block ≠ G := Nat.ne_of_lt (Nat.lt_of_lt_of_le (by have := World.block_lt_of_cell? _ _ ac; first | rwa [add_block] at this | exact this) aJ.out)
        have hn179_1 : az.block ≠ G := Nat.ne_of_lt (Nat.lt_of_lt_of_le (by have := World.block_lt_of_cell? _ _ ac; first | rwa [add_block] at this | exact this) aJ.out)
        replace ac := cb HB ac
        replace ai := cb HB ai
        replace aj := cb HB aj
        replace ak := cb HB ak
        replace al := cb HB al
        replace ac := (cell_far (p := ⟨G, 0, none⟩) (by first | (rw [add_block]; exact hn179_0) | (show (Addr.add _ _).block ≠ _; rw [add_block]; exact hn179_0) | exact hn179_0) (.int .i64 ((rd_T56 z y).f1.f0))).trans ac
        replace ai := (cell_far (p := ⟨G, 0, none⟩) (by first | (rw [add_block]; exact hn179_0) | (show (Addr.add _ _).block ≠ _; rw [add_block]; exact hn179_0) | exact hn179_0) (.int .i64 ((rd_T56 z y).f1.f0))).trans ai
        replace aj := (cell_far (p := ⟨G, 0, none⟩) (by first | (rw [add_block]; exact hn179_0) | (show (Addr.add _ _).block ≠ _; rw [add_block]; exact hn179_0) | exact hn179_0) (.int .i64 ((rd_T56 z y).f1.f0))).trans aj
        replace ak := (cell_far (p := ⟨G, 0, none⟩) (by first | (rw [add_block]; exact hn179_0) | (show (Addr.add _ _).block ≠ _; rw [add_block]; exact hn179_0) | exact hn179_0) (.int .i64 ((rd_T56 z y).f1.f0))).trans ak
        replace al := (cell_far (p := ⟨G, 0, none⟩) (by first | (rw [add_block]; exact hn179_0) | (show (Addr.add _ _).block ≠ _; rw [add_block]; exact hn179_0) | exact hn179_0) (.int .i64 ((rd_T56 z y).f1.f0))).trans al
        replace ac := (cell_far (p := ⟨G, 1, none⟩) (by first | (rw [add_block]; exact hn179_1) | (show (Addr.add _ _).block ≠ _; rw [add_block]; exact hn179_1) | exact hn179_1) (.int .i64 ((rd_T56 z y).f1.f1))).trans ac
        replace ai := (cell_far (p := ⟨G, 1, none⟩) (by first | (rw [add_block]; exact hn179_1) | (show (Addr.add _ _).block ≠ _; rw [add_block]; exact hn179_1) | exact hn179_1) (.int .i64 ((rd_T56 z y).f1.f1))).trans ai
        replace aj := (cell_far (p := ⟨G, 1, none⟩) (by first | (rw [add_block]; exact hn179_1) | (show (Addr.add _ _).block ≠ _; rw [add_block]; exact hn179_1) | exact hn179_1) (.int .i64 ((rd_T56 z y).f1.f1))).trans aj
        replace ak := (cell_far (p := ⟨G, 1, none⟩) (by first | (rw [add_block]; exact hn179_1) | (show (Addr.add _ _).block ≠ _; rw [add_block]; exact hn179_1) | exact hn179_1) (.int .i64 ((rd_T56 z y).f1.f1))).trans ak
        replace al := (cell_far (p := ⟨G, 1, none⟩) (by first | (rw [add_block]; exact hn179_1) | (show (Addr.add _ _).block ≠ _; rw [add_block]; exact hn179_1) | exact hn179_1) (.int .i64 ((rd_T56 z y).f1.f1))).trans al
        (try have hy179_0 := fun (n_ : Nat) => (show ((((Z.drewN n_).setCell ⟨G, 0, none⟩ (.int .i64 ((rd_T56 z y).f1.f0))).setCell ⟨G, 1, none⟩ (.int .i64 ((rd_T56 z y).f1.f1)))).cell? _ = some _ from ac))
        (try have hy179_1 := fun (n_ : Nat) => (show ((((Z.drewN n_).setCell ⟨G, 0, none⟩ (.int .i64 ((rd_T56 z y).f1.f0))).setCell ⟨G, 1, none⟩ (.int .i64 ((rd_T56 z y).f1.f1)))).cell? _ = some _ from ai))
        (try have hy179_2 := fun (n_ : Nat) => (show ((((Z.drewN n_).setCell ⟨G, 0, none⟩ (.int .i64 ((rd_T56 z y).f1.f0))).setCell ⟨G, 1, none⟩ (.int .i64 ((rd_T56 z y).f1.f1)))).cell? _ = some _ from aj))
        (try have hy179_3 := fun (n_ : Nat) => (show ((((Z.drewN n_).setCell ⟨G, 0, none⟩ (.int .i64 ((rd_T56 z y).f1.f0))).setCell ⟨G, 1, none⟩ (.int .i64 ((rd_T56 z y).f1.f1)))).cell? _ = some _ from ak))
        (try have hy179_4 := fun (n_ : Nat) => (show ((((Z.drewN n_).setCell ⟨G, 0, none⟩ (.int .i64 ((rd_T56 z y).f1.f0))).setCell ⟨G, 1, none⟩ (.int .i64 ((rd_T56 z y).f1.f1)))).cell? _ = some _ from al))
        clear hn179_0
        clear hn179_1
        replace aU := eq_true aU
        replace aV := eq_true aV
        have ep := an.out
        have eq := ao.out
        have er := aD.out
        have es := aE.out
        obtain ⟨dE, dF⟩ := bc2 (w := Z) I.out
        have dG := blk_frozen I.out
        go_wp2
        repeat (go_quiet (fail); try go_wp2)
        go_meet
        case rel => exact ⟨_, ((rd_T56 z y).f1.f0), ((rd_T56 z y).f1.f1), H', ⟨by have := aI.out; first | omega | exact Nat.le_refl _⟩, ⟨by (with_reducible repeat (first | apply Kd.R_alloc | apply Kd.R_drewN | apply Kd.R_drew)); exact Kd.R_mono (Kd.R_far (p := ⟨G, 1, none⟩) (Kd.R_far (p := ⟨G, 0, none⟩) (Kd.R_mono L.out (fun k_ hk => (⟨hk, hk.2⟩ : _ ∧ k_ ≠ G))) (fun _ hk => hk.2) (.int .i64 ((rd_T56 z y).f1.f0))) (fun _ hk => hk.2) (.int .i64 ((rd_T56 z y).f1.f1))) (fun _ hk => ⟨hk.1.1, hk.1.2⟩)⟩, ⟨Kd.R_mono (rt M.out O.out (by decide)) (fun _ hk => trivial)⟩, ⟨bf D.out⟩, ⟨bf I.out⟩, ⟨bf J.out⟩, ⟨by (with_reducible repeat (first | refine blk_drewN ?_ _ | refine blk_drew ?_ | refine blk_alloc ?_ _)); refine blk_put (cs := #[.int .i64 ((rd_T56 z y).f1.f0), .int .i64 0]) ?_ 1 _ rfl; (with_reducible repeat (first | refine blk_drewN ?_ _ | refine blk_drew ?_ | refine blk_alloc ?_ _)); refine blk_put (cs := #[.int .i64 0, .int .i64 0]) ?_ 0 _ rfl; exact bf O.out⟩, ⟨bs HB.out⟩⟩
     case rest =>
      clear bU
      try clear c1
      try clear p1
      try clear q1
      try clear et
      try clear c2
      try clear p2
      try clear c3
      try clear c4
      try clear c6
      try clear p6
      try clear c7
      try clear c9
      try clear cB
      try clear bu
      try clear df
      try clear eu
      try clear ev
      try clear ew
      try clear ex
      try clear ey
      try clear ez
      try clear eA
      try clear eB
      try clear eC
      try clear aw
      try clear bk
      try clear cK
      try clear cL
      try clear eD
      try clear eE
      try clear eF
      try clear eG
      try clear eH
      try clear ba
      try clear cM
      try clear eI
      try clear eJ
      try clear eK
      try clear eL
      try clear eM
      try clear eN
      try clear eO
      try clear eP
      try clear eQ
      try clear eR
      try clear dg dh
      try clear b0 b1
      try clear b3 b4
      try clear dk dl
      try clear dr dt
      try clear dv dw
      try clear dy dz
      try clear dB dC
      try clear dE dF
      try clear bJ bK
      try clear di
      try clear b2
      try clear b5
      try clear dm
      try clear du
      try clear dx
      try clear dA
      try clear dD
      try clear dG
      try clear bL
      try clear bV
      try clear bW
      try clear bX
      try clear bY
      try clear bZ
      try clear aG
      try clear aN
      try clear aP
      try clear aQ
      try clear aT
      try clear ac
      try clear ai
      try clear aj
      try clear ak
      try clear al
      try clear bM
      try clear bO
      try clear aU
      try clear p2
      try clear bN
      try clear bP
      try clear aV
      obtain ⟨kq, ap, aq, HA, bQ, L, M, D, I, J, O, HB⟩ := hcut
      cases kq with
      | zero => exact absurd HA.out (by simp [spec_l2Near.j1])
      | succ ax =>
       have H := HA.out
       clear HA
       simp only [spec_l2Near.j1] at H
       replace H := Option.bind_eq_some_iff.mp H
       obtain ⟨aH, cN, H⟩ := H
       try dsimp -simprocs only at H
       have bl := am cN
       clear cN
       by_cases bm : aH < 0
       ·rw [if_pos bm] at H
        have dH : decide (aH < 0) = true := decide_eq_true bm
        clear bm
        replace H := Option.bind_eq_some_iff.mp H
        obtain ⟨⟨bn, bv⟩, cO, H⟩ := H
        try dsimp -simprocs only at H
        have b8 := am cO
        clear cO
        have H' := am H
        clear H
        have eS := av.out
        have eT := au.out
        have eU := ao.out
        have eV := an.out
        have eW := aK.out
        have eX := aM.out
        obtain ⟨eY, eZ⟩ := bc2 (w := wc) J.out
        have e0 := blk_frozen J.out
        have e1 := aC.out
        have e2 := aA.out
        have e3 := aE.out
        have e4 := aD.out
        obtain ⟨e5, e6⟩ := bc2 (w := wc) O.out
        have e7 := blk_frozen O.out
        obtain ⟨bc, be, dI⟩ := Kd.R_slice L.out
        subst dI
        obtain ⟨aW, aX, dJ⟩ := Kd.R_slice M.out
        subst dJ
        go_wp2_with (first | (go_at_call 62; (with_reducible refine (spec_l2At.calls ax _ _ T _ _ ab ap aq aH _ ?af ?ag ?ah ?ay bl.out).mono ?_); (case af => exact cr L); (case ag => exact cc L); (case ah => exact cr M); (case ay => exact cc M); rintro e aY ⟨rfl, hb⟩; replace L := rb L hb; replace M := rb M hb; replace D := bb D hb rfl; replace I := bb I hb rfl; replace J := bb J hb rfl; replace O := bb O hb rfl; replace HB := hs HB hb; (try clear hb); obtain ⟨cP, cQ⟩ := bc2 (w := aY) J.out; have cR := blk_frozen J.out; obtain ⟨cS, cT⟩ := bc2 (w := aY) O.out; have cU := blk_frozen O.out) | (go_at_call 109; (with_reducible refine (spec_l2PutNode.calls ax (fun k_ => some k_ = (.slice bc T.length be : Value).ownBlock) (.slice bc T.length be) T (fun k_ => some k_ = (.slice aW ab.length aX : Value).ownBlock) (.slice aW ab.length aX) ab ap aq bn bv w _ ?af ?ag ?ah b8.out).mono ?_); (case af => exact bs HB.out); (case ag => exact Kd.R_tight rfl L.out); (case ah => exact Kd.R_tight rfl M.out); rintro e bw ⟨cV, cW, rfl, aZ, a4, hb, hkp⟩; replace D := am (blk_kept (bf D.out) hkp (fun hs_ => Or.elim hs_ (fun e_ => (fun e_ => (Kd.R_ne L.out D.out (by decide)) e_) e_) (fun e_ => (fun e_ => (Kd.R_ne M.out D.out (by decide)) e_) e_))); replace J := am (blk_kept (bf J.out) hkp (fun hs_ => Or.elim hs_ (fun e_ => (fun e_ => (Kd.R_ne L.out J.out (by decide)) e_) e_) (fun e_ => (fun e_ => (Kd.R_ne M.out J.out (by decide)) e_) e_))); have bo := am (Kd.R_mono (ok' := fun k_ => k_ ≠ aa ∧ k_ ≠ G) aZ (fun k_ hk_ => ⟨Or.elim hk_ (fun hs_ => Or.elim hs_ (fun hs_ => fun e_ => (Kd.R_away L.out (fun _ hk => hk.1)) (by rw [← e_]; exact hs_)) (fun hs_ => fun e_ => (Kd.R_ne M.out I.out (by decide)) (by rw [← e_]; exact hs_))) (fun hn_ => (Kd.freshB (g := aa) (o := .cells #[.int .i64 X, .int .i64 Y] 36 (0, 0)) (bf I.out) k_ hn_)), Or.elim hk_ (fun hs_ => Or.elim hs_ (fun hs_ => fun e_ => (Kd.R_away L.out (fun _ hk => hk.2)) (by rw [← e_]; exact hs_)) (fun hs_ => fun e_ => (Kd.R_ne M.out O.out (by decide)) (by rw [← e_]; exact hs_))) (fun hn_ => (Kd.freshB (g := G) (o := .cells #[.int .i64 ap, .int .i64 aq] 36 (0, 0)) (bf O.out) k_ hn_))⟩)); replace I := am (blk_kept (bf I.out) hkp (fun hs_ => Or.elim hs_ (fun e_ => (fun e_ => (Kd.R_away L.out (fun _ hk => hk.1)) e_) e_) (fun e_ => (fun e_ => (Kd.R_ne M.out I.out (by decide)) e_) e_))); replace O := am (blk_kept (bf O.out) hkp (fun hs_ => Or.elim hs_ (fun e_ => (fun e_ => (Kd.R_away L.out (fun _ hk => hk.2)) e_) e_) (fun e_ => (fun e_ => (Kd.R_ne M.out O.out (by decide)) e_) e_))); have br := am (Kd.R_mono (ok' := fun k_ => True) a4 (fun k_ hk_ => trivial)); replace HB := am hb; clear L M; (try clear aZ a4 hb hkp); obtain ⟨bR, bS, bz⟩ := Kd.R_slice bo.out; subst bz; obtain ⟨cX, cY⟩ := bc2 (w := bw) J.out; have cZ := blk_frozen J.out; obtain ⟨b9, ce, bA⟩ := Kd.R_slice br.out; subst bA))
        repeat (go_quiet (first | (go_at_call 62; (with_reducible refine (spec_l2At.calls ax _ _ T _ _ ab ap aq aH _ ?af ?ag ?ah ?ay bl.out).mono ?_); (case af => exact cr L); (case ag => exact cc L); (case ah => exact cr M); (case ay => exact cc M); rintro e aY ⟨rfl, hb⟩; replace L := rb L hb; replace M := rb M hb; replace D := bb D hb rfl; replace I := bb I hb rfl; replace J := bb J hb rfl; replace O := bb O hb rfl; replace HB := hs HB hb; (try clear hb); obtain ⟨cP, cQ⟩ := bc2 (w := aY) J.out; have cR := blk_frozen J.out; obtain ⟨cS, cT⟩ := bc2 (w := aY) O.out; have cU := blk_frozen O.out) | (go_at_call 109; (with_reducible refine (spec_l2PutNode.calls ax (fun k_ => some k_ = (.slice bc T.length be : Value).ownBlock) (.slice bc T.length be) T (fun k_ => some k_ = (.slice aW ab.length aX : Value).ownBlock) (.slice aW ab.length aX) ab ap aq bn bv w _ ?af ?ag ?ah b8.out).mono ?_); (case af => exact bs HB.out); (case ag => exact Kd.R_tight rfl L.out); (case ah => exact Kd.R_tight rfl M.out); rintro e bw ⟨cV, cW, rfl, aZ, a4, hb, hkp⟩; replace D := am (blk_kept (bf D.out) hkp (fun hs_ => Or.elim hs_ (fun e_ => (fun e_ => (Kd.R_ne L.out D.out (by decide)) e_) e_) (fun e_ => (fun e_ => (Kd.R_ne M.out D.out (by decide)) e_) e_))); replace J := am (blk_kept (bf J.out) hkp (fun hs_ => Or.elim hs_ (fun e_ => (fun e_ => (Kd.R_ne L.out J.out (by decide)) e_) e_) (fun e_ => (fun e_ => (Kd.R_ne M.out J.out (by decide)) e_) e_))); have bo := am (Kd.R_mono (ok' := fun k_ => k_ ≠ aa ∧ k_ ≠ G) aZ (fun k_ hk_ => ⟨Or.elim hk_ (fun hs_ => Or.elim hs_ (fun hs_ => fun e_ => (Kd.R_away L.out (fun _ hk => hk.1)) (by rw [← e_]; exact hs_)) (fun hs_ => fun e_ => (Kd.R_ne M.out I.out (by decide)) (by rw [← e_]; exact hs_))) (fun hn_ => (Kd.freshB (g := aa) (o := .cells #[.int .i64 X, .int .i64 Y] 36 (0, 0)) (bf I.out) k_ hn_)), Or.elim hk_ (fun hs_ => Or.elim hs_ (fun hs_ => fun e_ => (Kd.R_away L.out (fun _ hk => hk.2)) (by rw [← e_]; exact hs_)) (fun hs_ => fun e_ => (Kd.R_ne M.out O.out (by decide)) (by rw [← e_]; exact hs_))) (fun hn_ => (Kd.freshB (g := G) (o := .cells #[.int .i64 ap, .int .i64 aq] 36 (0, 0)) (bf O.out) k_ hn_))⟩)); replace I := am (blk_kept (bf I.out) hkp (fun hs_ => Or.elim hs_ (fun e_ => (fun e_ => (Kd.R_away L.out (fun _ hk => hk.1)) e_) e_) (fun e_ => (fun e_ => (Kd.R_ne M.out I.out (by decide)) e_) e_))); replace O := am (blk_kept (bf O.out) hkp (fun hs_ => Or.elim hs_ (fun e_ => (fun e_ => (Kd.R_away L.out (fun _ hk => hk.2)) e_) e_) (fun e_ => (fun e_ => (Kd.R_ne M.out O.out (by decide)) e_) e_))); have br := am (Kd.R_mono (ok' := fun k_ => True) a4 (fun k_ hk_ => trivial)); replace HB := am hb; clear L M; (try clear aZ a4 hb hkp); obtain ⟨bR, bS, bz⟩ := Kd.R_slice bo.out; subst bz; obtain ⟨cX, cY⟩ := bc2 (w := bw) J.out; have cZ := blk_frozen J.out; obtain ⟨b9, ce, bA⟩ := Kd.R_slice br.out; subst bA)); try go_wp2_with (first | (go_at_call 62; (with_reducible refine (spec_l2At.calls ax _ _ T _ _ ab ap aq aH _ ?af ?ag ?ah ?ay bl.out).mono ?_); (case af => exact cr L); (case ag => exact cc L); (case ah => exact cr M); (case ay => exact cc M); rintro e aY ⟨rfl, hb⟩; replace L := rb L hb; replace M := rb M hb; replace D := bb D hb rfl; replace I := bb I hb rfl; replace J := bb J hb rfl; replace O := bb O hb rfl; replace HB := hs HB hb; (try clear hb); obtain ⟨cP, cQ⟩ := bc2 (w := aY) J.out; have cR := blk_frozen J.out; obtain ⟨cS, cT⟩ := bc2 (w := aY) O.out; have cU := blk_frozen O.out) | (go_at_call 109; (with_reducible refine (spec_l2PutNode.calls ax (fun k_ => some k_ = (.slice bc T.length be : Value).ownBlock) (.slice bc T.length be) T (fun k_ => some k_ = (.slice aW ab.length aX : Value).ownBlock) (.slice aW ab.length aX) ab ap aq bn bv w _ ?af ?ag ?ah b8.out).mono ?_); (case af => exact bs HB.out); (case ag => exact Kd.R_tight rfl L.out); (case ah => exact Kd.R_tight rfl M.out); rintro e bw ⟨cV, cW, rfl, aZ, a4, hb, hkp⟩; replace D := am (blk_kept (bf D.out) hkp (fun hs_ => Or.elim hs_ (fun e_ => (fun e_ => (Kd.R_ne L.out D.out (by decide)) e_) e_) (fun e_ => (fun e_ => (Kd.R_ne M.out D.out (by decide)) e_) e_))); replace J := am (blk_kept (bf J.out) hkp (fun hs_ => Or.elim hs_ (fun e_ => (fun e_ => (Kd.R_ne L.out J.out (by decide)) e_) e_) (fun e_ => (fun e_ => (Kd.R_ne M.out J.out (by decide)) e_) e_))); have bo := am (Kd.R_mono (ok' := fun k_ => k_ ≠ aa ∧ k_ ≠ G) aZ (fun k_ hk_ => ⟨Or.elim hk_ (fun hs_ => Or.elim hs_ (fun hs_ => fun e_ => (Kd.R_away L.out (fun _ hk => hk.1)) (by rw [← e_]; exact hs_)) (fun hs_ => fun e_ => (Kd.R_ne M.out I.out (by decide)) (by rw [← e_]; exact hs_))) (fun hn_ => (Kd.freshB (g := aa) (o := .cells #[.int .i64 X, .int .i64 Y] 36 (0, 0)) (bf I.out) k_ hn_)), Or.elim hk_ (fun hs_ => Or.elim hs_ (fun hs_ => fun e_ => (Kd.R_away L.out (fun _ hk => hk.2)) (by rw [← e_]; exact hs_)) (fun hs_ => fun e_ => (Kd.R_ne M.out O.out (by decide)) (by rw [← e_]; exact hs_))) (fun hn_ => (Kd.freshB (g := G) (o := .cells #[.int .i64 ap, .int .i64 aq] 36 (0, 0)) (bf O.out) k_ hn_))⟩)); replace I := am (blk_kept (bf I.out) hkp (fun hs_ => Or.elim hs_ (fun e_ => (fun e_ => (Kd.R_away L.out (fun _ hk => hk.1)) e_) e_) (fun e_ => (fun e_ => (Kd.R_ne M.out I.out (by decide)) e_) e_))); replace O := am (blk_kept (bf O.out) hkp (fun hs_ => Or.elim hs_ (fun e_ => (fun e_ => (Kd.R_away L.out (fun _ hk => hk.2)) e_) e_) (fun e_ => (fun e_ => (Kd.R_ne M.out O.out (by decide)) e_) e_))); have br := am (Kd.R_mono (ok' := fun k_ => True) a4 (fun k_ hk_ => trivial)); replace HB := am hb; clear L M; (try clear aZ a4 hb hkp); obtain ⟨bR, bS, bz⟩ := Kd.R_slice bo.out; subst bz; obtain ⟨cX, cY⟩ := bc2 (w := bw) J.out; have cZ := blk_frozen J.out; obtain ⟨b9, ce, bA⟩ := Kd.R_slice br.out; subst bA)))
        go_roundg ax
        case measure => have := aI.out; have := bQ.out; omega
        case rel => exact ⟨(wrap64 (y + 1)), (bn), (bv), (.slice bR bn.length bS), (.slice b9 bv.length ce), eqs, H', ⟨by have := aI.out; have := bQ.out; omega⟩, ⟨Kd.R_mono (rt bo.out J.out (by decide)) (fun _ hk => hk.1)⟩, ⟨Kd.R_mono (rt br.out J.out (by decide)) (fun _ hk => trivial)⟩, ⟨bf D.out⟩, ⟨bf I.out⟩, ⟨by (with_reducible repeat (first | refine blk_drewN ?_ _ | refine blk_drew ?_ | refine blk_alloc ?_ _)); refine blk_put (cs := #[.slice bR bn.length bS, .slice aW ab.length aX]) ?_ 1 _ rfl; (with_reducible repeat (first | refine blk_drewN ?_ _ | refine blk_drew ?_ | refine blk_alloc ?_ _)); refine blk_put (cs := #[.slice bc T.length be, .slice aW ab.length aX]) ?_ 0 _ rfl; exact bf J.out⟩, ⟨bs HB.out⟩⟩
       ·rw [if_neg bm] at H
        have dH : decide (aH < 0) = false := decide_eq_false bm
        clear bm
        have H' := am H
        clear H
        have e8 := av.out
        have e9 := au.out
        have fa := ao.out
        have fb := an.out
        have fc := aK.out
        have fd := aM.out
        obtain ⟨fe, ff⟩ := bc2 (w := wc) J.out
        have fg := blk_frozen J.out
        have fh := aC.out
        have fi := aA.out
        have fj := aE.out
        have fk := aD.out
        obtain ⟨fl, fm⟩ := bc2 (w := wc) O.out
        have fo := blk_frozen O.out
        obtain ⟨dK, dL, dM⟩ := Kd.R_slice L.out
        subst dM
        obtain ⟨dN, dO, dP⟩ := Kd.R_slice M.out
        subst dP
        go_wp2_with (first | (go_at_call 62; (with_reducible refine (spec_l2At.calls ax _ _ T _ _ ab ap aq aH _ ?af ?ag ?ah ?ay bl.out).mono ?_); (case af => exact cr L); (case ag => exact cc L); (case ah => exact cr M); (case ay => exact cc M); rintro e c0 ⟨rfl, hb⟩; replace L := rb L hb; replace M := rb M hb; replace D := bb D hb rfl; replace I := bb I hb rfl; replace J := bb J hb rfl; replace O := bb O hb rfl; replace HB := hs HB hb; (try clear hb)))
        repeat (go_quiet (first | (go_at_call 62; (with_reducible refine (spec_l2At.calls ax _ _ T _ _ ab ap aq aH _ ?af ?ag ?ah ?ay bl.out).mono ?_); (case af => exact cr L); (case ag => exact cc L); (case ah => exact cr M); (case ay => exact cc M); rintro e c0 ⟨rfl, hb⟩; replace L := rb L hb; replace M := rb M hb; replace D := bb D hb rfl; replace I := bb I hb rfl; replace J := bb J hb rfl; replace O := bb O hb rfl; replace HB := hs HB hb; (try clear hb))); try go_wp2_with (first | (go_at_call 62; (with_reducible refine (spec_l2At.calls ax _ _ T _ _ ab ap aq aH _ ?af ?ag ?ah ?ay bl.out).mono ?_); (case af => exact cr L); (case ag => exact cc L); (case ah => exact cr M); (case ay => exact cc M); rintro e c0 ⟨rfl, hb⟩; replace L := rb L hb; replace M := rb M hb; replace D := bb D hb rfl; replace I := bb I hb rfl; replace J := bb J hb rfl; replace O := bb O hb rfl; replace HB := hs HB hb; (try clear hb))))
        go_roundg ax
        case measure => have := aI.out; have := bQ.out; omega
        case rel => exact ⟨(wrap64 (y + 1)), (T), (ab), (.slice dK T.length dL), (.slice dN ab.length dO), eqs, H', ⟨by have := aI.out; have := bQ.out; omega⟩, ⟨by (with_reducible repeat (first | apply Kd.R_alloc | apply Kd.R_drewN | apply Kd.R_drew)); exact Kd.R_mono L.out (fun _ hk => hk.1)⟩, ⟨rl M.out⟩, ⟨bf D.out⟩, ⟨bf I.out⟩, ⟨bf J.out⟩, ⟨bs HB.out⟩⟩
    ·rw [if_neg bu] at H
     exact absurd H (by simp)
   ·rw [if_neg c9] at H
    have cB : decide (y < (z.length : Int)) = false := decide_eq_false c9
    clear c9
    obtain ⟨bg, cf⟩ : ∃ y_ : List (S36), y_ = (([] : List (S36))) := ⟨_, rfl⟩
    replace H : (if bg.length + T.length < 8796093022208 then (some (bg ++ T)) else (none)) = some r := by first | (rw [cf]; exact H) | exact H
    have bt := am cf
    clear cf
    by_cases bT : bg.length + T.length < 8796093022208
    ·rw [if_pos bT] at H
     have cg := am bT
     clear bT
     obtain ⟨dQ, ch⟩ : ∃ y_ : List (S36), y_ = (bg ++ T) := ⟨_, rfl⟩
     replace H : (some dQ) = some r := by first | (rw [ch]; exact H) | exact H
     have ci := am ch
     clear ch
     obtain rfl := Option.some.inj H
     have fp := a8.out
     have fq := a9.out
     have fr := au.out
     have fs := av.out
     obtain ⟨ft, fu⟩ := bc2 (w := wr) D.out
     have fv := blk_frozen D.out
     go_wp2_with (first | ((with_reducible refine gd 46 rfl ?_); refine Kd.R_lit k36 _ 36 ?hg (N := 46) ?hd (xs := ([] : List (S36))) (inner := []) (ok := fun _ => True) (okp := fun _ => True) ?hr ?hp (fun _ hk => hk) trivial (Below.refl _ _) (Nat.le_refl _) (by simp) ?_; (case hd => rfl); (case hg => rfl); (case hr => first | (go_simp; done) | (go_simp; rfl)); (case hp => exact (Reps.none _ _)); intro bB bC ad hb hg_ hnew_; clear hg_ hnew_; (first | rw [← bt.out] at ad | (simp only [Int.reduceToNat] at ad; rw [← bt.out] at ad)); replace M := rb M hb; have ae := am (Kd.R_lower (Kd.R_newB (Kd.R_new' ad (rk L)) (g := aa) (o := .cells #[.int .i64 X, .int .i64 Y] 36 (0, 0)) (bf I.out)) (below_size (bs HB.out))); replace L := re L ad hb; replace D := bb D hb rfl; replace I := bb I hb rfl; replace J := bb J hb rfl; replace HB := hs HB hb; clear hb ad; have c5 := ao.out; have c8 := an.out; obtain ⟨da, db⟩ := bc2 (w := bC) J.out; have dc := blk_frozen J.out; obtain ⟨bD, bE, bF⟩ := Kd.R_slice L.out; subst bF) | ((with_reducible refine gate_builtin (b := .append) (xs := #[.tmp 46, .tmp 48]) rfl ?_); at_builtin; refine Kd.R_append_rows k36 (w0 := w) w.heap.size rfl (.tmp 46) (.tmp 48) 29 36 (.agg #[(.int .i64 0), (.int .i64 0)]) 16 rfl Try.underlying29 info36 rfl (by decide) (by omega) bB bg T _ _ _ (fun k_ => some k_ ≠ (.slice bD T.length bE : Value).ownBlock ∧ k_ ≠ aa) (fun _ => False) rfl rfl ?aO ?aR (fun _ _ h => h) (fun _ h => h.elim) ?aF ?aB ?aS ?aL ?_; (case aR => exact cr L); (case aB => exact (bs HB.out)); (case aF => exact (fun k_ hk => ⟨Kd.fresh' (rk L) k_ hk, Kd.freshB (g := aa) (o := .cells #[.int .i64 X, .int .i64 Y] 36 (0, 0)) (bf I.out) k_ hk⟩)); (case aO => exact (by (with_reducible repeat (first | apply Kd.R_alloc | apply Kd.R_drewN | apply Kd.R_drew)); exact Kd.R_mono ae.out (fun _ hk => ⟨hk.1.2, hk.2⟩))); (case aS => exact (below_size (bs HB.out))); (case aL => have := cg.out; omega); intro dd de ho hb hg hat; rw [← ci.out] at ho; replace L := am (Kd.R_after (ok := (fun k_ => k_ ≠ aa)) (rl L.out) hg hat); replace M := am (Kd.R_over' (rl M.out) (Kd.R_typed (rl ae.out)) (by decide) hg); replace D := gr D ae hg; replace I := am (blk_grown (g := aa) (o := .cells #[.int .i64 X, .int .i64 Y] 36 (0, 0)) (bf I.out) hg (Kd.R_away ae.out (fun _ hk => hk.2))); replace J := gr J ae hg; replace HB := am hb; have cj := am ho; clear ae; clear ho hb hg hat))
     repeat (go_quiet (first | ((with_reducible refine gd 46 rfl ?_); refine Kd.R_lit k36 _ 36 ?hg (N := 46) ?hd (xs := ([] : List (S36))) (inner := []) (ok := fun _ => True) (okp := fun _ => True) ?hr ?hp (fun _ hk => hk) trivial (Below.refl _ _) (Nat.le_refl _) (by simp) ?_; (case hd => rfl); (case hg => rfl); (case hr => first | (go_simp; done) | (go_simp; rfl)); (case hp => exact (Reps.none _ _)); intro bB bC ad hb hg_ hnew_; clear hg_ hnew_; (first | rw [← bt.out] at ad | (simp only [Int.reduceToNat] at ad; rw [← bt.out] at ad)); replace M := rb M hb; have ae := am (Kd.R_lower (Kd.R_newB (Kd.R_new' ad (rk L)) (g := aa) (o := .cells #[.int .i64 X, .int .i64 Y] 36 (0, 0)) (bf I.out)) (below_size (bs HB.out))); replace L := re L ad hb; replace D := bb D hb rfl; replace I := bb I hb rfl; replace J := bb J hb rfl; replace HB := hs HB hb; clear hb ad; have c5 := ao.out; have c8 := an.out; obtain ⟨da, db⟩ := bc2 (w := bC) J.out; have dc := blk_frozen J.out; obtain ⟨bD, bE, bF⟩ := Kd.R_slice L.out; subst bF) | ((with_reducible refine gate_builtin (b := .append) (xs := #[.tmp 46, .tmp 48]) rfl ?_); at_builtin; refine Kd.R_append_rows k36 (w0 := w) w.heap.size rfl (.tmp 46) (.tmp 48) 29 36 (.agg #[(.int .i64 0), (.int .i64 0)]) 16 rfl Try.underlying29 info36 rfl (by decide) (by omega) bB bg T _ _ _ (fun k_ => some k_ ≠ (.slice bD T.length bE : Value).ownBlock ∧ k_ ≠ aa) (fun _ => False) rfl rfl ?aO ?aR (fun _ _ h => h) (fun _ h => h.elim) ?aF ?aB ?aS ?aL ?_; (case aR => exact cr L); (case aB => exact (bs HB.out)); (case aF => exact (fun k_ hk => ⟨Kd.fresh' (rk L) k_ hk, Kd.freshB (g := aa) (o := .cells #[.int .i64 X, .int .i64 Y] 36 (0, 0)) (bf I.out) k_ hk⟩)); (case aO => exact (by (with_reducible repeat (first | apply Kd.R_alloc | apply Kd.R_drewN | apply Kd.R_drew)); exact Kd.R_mono ae.out (fun _ hk => ⟨hk.1.2, hk.2⟩))); (case aS => exact (below_size (bs HB.out))); (case aL => have := cg.out; omega); intro dd de ho hb hg hat; rw [← ci.out] at ho; replace L := am (Kd.R_after (ok := (fun k_ => k_ ≠ aa)) (rl L.out) hg hat); replace M := am (Kd.R_over' (rl M.out) (Kd.R_typed (rl ae.out)) (by decide) hg); replace D := gr D ae hg; replace I := am (blk_grown (g := aa) (o := .cells #[.int .i64 X, .int .i64 Y] 36 (0, 0)) (bf I.out) hg (Kd.R_away ae.out (fun _ hk => hk.2))); replace J := gr J ae hg; replace HB := am hb; have cj := am ho; clear ae; clear ho hb hg hat)); try go_wp2_with (first | ((with_reducible refine gd 46 rfl ?_); refine Kd.R_lit k36 _ 36 ?hg (N := 46) ?hd (xs := ([] : List (S36))) (inner := []) (ok := fun _ => True) (okp := fun _ => True) ?hr ?hp (fun _ hk => hk) trivial (Below.refl _ _) (Nat.le_refl _) (by simp) ?_; (case hd => rfl); (case hg => rfl); (case hr => first | (go_simp; done) | (go_simp; rfl)); (case hp => exact (Reps.none _ _)); intro bB bC ad hb hg_ hnew_; clear hg_ hnew_; (first | rw [← bt.out] at ad | (simp only [Int.reduceToNat] at ad; rw [← bt.out] at ad)); replace M := rb M hb; have ae := am (Kd.R_lower (Kd.R_newB (Kd.R_new' ad (rk L)) (g := aa) (o := .cells #[.int .i64 X, .int .i64 Y] 36 (0, 0)) (bf I.out)) (below_size (bs HB.out))); replace L := re L ad hb; replace D := bb D hb rfl; replace I := bb I hb rfl; replace J := bb J hb rfl; replace HB := hs HB hb; clear hb ad; have c5 := ao.out; have c8 := an.out; obtain ⟨da, db⟩ := bc2 (w := bC) J.out; have dc := blk_frozen J.out; obtain ⟨bD, bE, bF⟩ := Kd.R_slice L.out; subst bF) | ((with_reducible refine gate_builtin (b := .append) (xs := #[.tmp 46, .tmp 48]) rfl ?_); at_builtin; refine Kd.R_append_rows k36 (w0 := w) w.heap.size rfl (.tmp 46) (.tmp 48) 29 36 (.agg #[(.int .i64 0), (.int .i64 0)]) 16 rfl Try.underlying29 info36 rfl (by decide) (by omega) bB bg T _ _ _ (fun k_ => some k_ ≠ (.slice bD T.length bE : Value).ownBlock ∧ k_ ≠ aa) (fun _ => False) rfl rfl ?aO ?aR (fun _ _ h => h) (fun _ h => h.elim) ?aF ?aB ?aS ?aL ?_; (case aR => exact cr L); (case aB => exact (bs HB.out)); (case aF => exact (fun k_ hk => ⟨Kd.fresh' (rk L) k_ hk, Kd.freshB (g := aa) (o := .cells #[.int .i64 X, .int .i64 Y] 36 (0, 0)) (bf I.out) k_ hk⟩)); (case aO => exact (by (with_reducible repeat (first | apply Kd.R_alloc | apply Kd.R_drewN | apply Kd.R_drew)); exact Kd.R_mono ae.out (fun _ hk => ⟨hk.1.2, hk.2⟩))); (case aS => exact (below_size (bs HB.out))); (case aL => have := cg.out; omega); intro dd de ho hb hg hat; rw [← ci.out] at ho; replace L := am (Kd.R_after (ok := (fun k_ => k_ ≠ aa)) (rl L.out) hg hat); replace M := am (Kd.R_over' (rl M.out) (Kd.R_typed (rl ae.out)) (by decide) hg); replace D := gr D ae hg; replace I := am (blk_grown (g := aa) (o := .cells #[.int .i64 X, .int .i64 Y] 36 (0, 0)) (bf I.out) hg (Kd.R_away ae.out (fun _ hk => hk.2))); replace J := gr J ae hg; replace HB := am hb; have cj := am ho; clear ae; clear ho hb hg hat)))
     go_ret
     exact ⟨_, eqr, by (with_reducible repeat (first | apply Kd.R_alloc | apply Kd.R_drewN | apply Kd.R_drew)); exact Kd.R_mono cj.out (fun _ hk => trivial), bs HB.out⟩
    ·rw [if_neg bT] at H
     exact absurd H (by simp)

end Go.Proofs.Ytohmemckdogljaa.QFnExactWalkPath
