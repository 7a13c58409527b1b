/- Contracts of the Go functions that this law reaches: each does what its plain Lean function says. No condition. -/
import Derived.Test.YtohmemckdogljaaQFnExactGraphNearx0
import Derived.Test.YtohmemckdogljaaQFnExactGraphNearx1
import Derived.Test.YtohmemckdogljaaQFnExactGraphNearx3
import Derived.Test.YtohmemckdogljaaQFnExactGraphNearx5
import Derived.Test.YtohmemckdogljaaQFnExactGraphNearx6
namespace Go.Proofs.Ytohmemckdogljaa.QFnExactGraphNear
open Go.RowKit Go.Proofs.YtohmemckdogljaaW.PrintWords Go.Proofs.YtohmemckdogljaaW.PrintLast Go.Proofs.YtohmemckdogljaaW.PrintMore Go.Proofs.Ytohmemckdogljaa.Bl
attribute [local go_sem] max2_int min2_int max_two min_two max_three min_three max_four min_four   -- for this text's walks alone
set_option linter.unusedVariables false
set_option linter.unusedSimpArgs false
set_option maxHeartbeats 8000000
set_option maxRecDepth 100000

attribute [local go_sem high] eqA36
/-! ### spec_l2Near: function 64 -/
mutual
def spec_l2Near.l0 : Nat → Int → List (S36) → List (S56) → Int → Int → List (S36) → List (S56) → Option ((List (S36)))
 | 0, _, _, _, _, _, _, _ => none
 | k + 1, s, L, z, D, I, J, M => if s < (z.length : Int) then (if 0 ≤ s then (if (((rd_T56 z s).f1.f0) == D && (((rd_T56 z s).f1.f1) == I)) = true then (spec_l2Near.j1 k s L z D I J M ((rd_T56 z s).f2.f0) ((rd_T56 z s).f2.f1)) else (if (!(((rd_T56 z s).f2.f0) == D) || (!(((rd_T56 z s).f2.f1) == I))) = true then (spec_l2Near.l0 k (wrap64 (s + 1)) L z D I J M) else (spec_l2Near.j1 k s L z D I J M ((rd_T56 z s).f1.f0) ((rd_T56 z s).f1.f1)))) else (none)) else ((some (([] : List (S36)) : List (S36))).bind fun O => (if O.length + J.length < 8796093022208 then (some (O ++ J)) else (none)))
def spec_l2Near.j1 : Nat → Int → List (S36) → List (S56) → Int → Int → List (S36) → List (S56) → Int → Int → Option ((List (S36)))
 | 0, _, _, _, _, _, _, _, _, _ => none
 | k + 1, D, I, J, L, M, s, z, O, T => (spec_l2At.f k s z O T).bind fun Y => (if Y < 0 then ((spec_l2PutNode.f k s z O T).bind fun X => (spec_l2Near.l0 k (wrap64 (D + 1)) I J L M X.1 X.2)) else (spec_l2Near.l0 k (wrap64 (D + 1)) I J L M s z))
end
def spec_l2Near.f (k : Nat) (s : List (S36)) (z : List (S56)) (D : Int) (I : Int) : Option ((List (S36))) := spec_l2Near.l0 k 0 s z D I ([] : List (S36)) ([] : List (S56))
theorem spec_l2Near.calls (k : Nat) (a7 : Option Addr) (a8 : Nat) (av : List (S36)) (bj : Option Addr) (a9 : Nat) (D : List (S56)) (Z : Int) (aa : Int) (r : List (S36)) (w : World) (cv : Kd.C k36 w a7 av.length av) (cy : av.length ≤ a8) (cz : Kd.C k56 w bj D.length D) (cA : D.length ≤ a9) (h : spec_l2Near.f k av D Z aa = some r) :
  Calls Try.prog 64 #[.agg #[.slice a7 av.length a8, .slice bj D.length a9], .agg #[.int .i64 Z, .int .i64 aa]] w fun e w' => ∃ cB : Value, e = .returned (cB) ∧ Kd.R k36 36 w' w.heap.size (fun _ => True) cB r ∧ Below w.heap.size w w' := by
 have hu34 := Try.underlying34
 have hu36 := Try.underlying36
 have dZ := am cv
 have d0 := am cy
 clear cv cy
 have bI := am cz
 have d1 := am cA
 clear cz cA
 have HB := am (Below.refl w.heap.size w)
 have H := h; unfold spec_l2Near.f at H
 clear h
 have H' := am H
 clear H
 go_enter Try.func64, Try.ntmps64
 go_wp2_with (first | ((with_reducible refine gd 2 rfl ?_); refine bx 2 (cs := #[.slice a7 av.length a8, .slice bj D.length a9]) (t := 34) ?_; intro bJ hg w3 hbox hb; have I := am hbox; have cC := gwb HB hg; replace HB := hs HB hb; clear hb hbox hg) | ((with_reducible refine gd 3 rfl ?_); refine bx 3 (cs := #[.int .i64 Z, .int .i64 aa]) (t := 36) ?_; intro ac hg w4 hbox hb; have L := am hbox; have cD := gwb HB hg; replace HB := hs HB hb; have ba := nq I hg; have bc := nq' I hg; replace I := bb I hb rfl; clear hb hbox hg) | ((with_reducible refine gd 5 rfl ?_); refine bx 5 (cs := #[.slice none 0 0, .slice none 0 0]) (t := 34) ?_; intro bK hg w5 hbox hb; have M := am hbox; have cE := gwb HB hg; replace HB := hs HB hb; have aw := nq I hg; have ax := nq' I hg; replace I := bb I hb rfl; have ap := nq L hg; have aq := nq' L hg; replace L := bb L hb rfl; clear hb hbox hg; have cF := ax.out; have cG := aw.out; have cH := aq.out; have cI := ap.out; obtain ⟨bL, bM⟩ := bc2 (w := w5) M.out; have bN := blk_frozen M.out))
 repeat (go_quiet (first | ((with_reducible refine gd 2 rfl ?_); refine bx 2 (cs := #[.slice a7 av.length a8, .slice bj D.length a9]) (t := 34) ?_; intro bJ hg w3 hbox hb; have I := am hbox; have cC := gwb HB hg; replace HB := hs HB hb; clear hb hbox hg) | ((with_reducible refine gd 3 rfl ?_); refine bx 3 (cs := #[.int .i64 Z, .int .i64 aa]) (t := 36) ?_; intro ac hg w4 hbox hb; have L := am hbox; have cD := gwb HB hg; replace HB := hs HB hb; have ba := nq I hg; have bc := nq' I hg; replace I := bb I hb rfl; clear hb hbox hg) | ((with_reducible refine gd 5 rfl ?_); refine bx 5 (cs := #[.slice none 0 0, .slice none 0 0]) (t := 34) ?_; intro bK hg w5 hbox hb; have M := am hbox; have cE := gwb HB hg; replace HB := hs HB hb; have aw := nq I hg; have ax := nq' I hg; replace I := bb I hb rfl; have ap := nq L hg; have aq := nq' L hg; replace L := bb L hb rfl; clear hb hbox hg; have cF := ax.out; have cG := aw.out; have cH := aq.out; have cI := ap.out; obtain ⟨bL, bM⟩ := bc2 (w := w5) M.out; have bN := blk_frozen M.out)); try go_wp2_with (first | ((with_reducible refine gd 2 rfl ?_); refine bx 2 (cs := #[.slice a7 av.length a8, .slice bj D.length a9]) (t := 34) ?_; intro bJ hg w3 hbox hb; have I := am hbox; have cC := gwb HB hg; replace HB := hs HB hb; clear hb hbox hg) | ((with_reducible refine gd 3 rfl ?_); refine bx 3 (cs := #[.int .i64 Z, .int .i64 aa]) (t := 36) ?_; intro ac hg w4 hbox hb; have L := am hbox; have cD := gwb HB hg; replace HB := hs HB hb; have ba := nq I hg; have bc := nq' I hg; replace I := bb I hb rfl; clear hb hbox hg) | ((with_reducible refine gd 5 rfl ?_); refine bx 5 (cs := #[.slice none 0 0, .slice none 0 0]) (t := 34) ?_; intro bK hg w5 hbox hb; have M := am hbox; have cE := gwb HB hg; replace HB := hs HB hb; have aw := nq I hg; have ax := nq' I hg; replace I := bb I hb rfl; have ap := nq L hg; have aq := nq' L hg; replace L := bb L hb rfl; clear hb hbox hg; have cF := ax.out; have cG := aw.out; have cH := aq.out; have cI := ap.out; obtain ⟨bL, bM⟩ := bc2 (w := w5) M.out; have bN := blk_frozen M.out)))
 go_loopg [6] k (fun kq v6 w' => ∃ (z : Int) (Y : List (S36)) (ad : List (S56)) (bk : Value) (bl : Value), v6 = .int .i64 z ∧ Aside0 (spec_l2Near.l0 kq z av D Z aa Y ad = some r) ∧ Aside0 (kq ≤ k) ∧ Aside0 (Kd.R k36 36 w' w.heap.size (fun k_ => k_ ≠ ac) bk Y) ∧ Aside0 (Kd.R k56 56 w' w.heap.size (fun _ => True) bl ad) ∧ Aside0 (w'.heap[bJ]? = some (.cells #[(.slice a7 av.length a8), (.slice bj D.length a9)] 34 (0, 0))) ∧ Aside0 (w'.heap[ac]? = some (.cells #[.int .i64 Z, .int .i64 aa] 36 (0, 0))) ∧ Aside0 (w'.heap[bK]? = some (.cells #[bk, bl] 34 (0, 0))) ∧ Aside0 (Below w.heap.size w w'))
 case atStart => exact ⟨(0), (([] : List (S36))), (([] : List (S56))), (.slice none 0 0), (.slice none 0 0), eqs, H', ⟨Nat.le_refl _⟩, ⟨by first | exact Kd.R_nil _ _ _ _ _ | exact Kd.N_nil _ _ _ _ _ | exact Kd.V_nil _ _ _ _ _ | exact Kd.Q_nil _ _ _ _ _ | exact Kd.S_nil _ _ _ _ _⟩, ⟨by first | exact Kd.R_nil _ _ _ _ _ | exact Kd.N_nil _ _ _ _ _ | exact Kd.V_nil _ _ _ _ _ | exact Kd.Q_nil _ _ _ _ _ | exact Kd.S_nil _ _ _ _ _⟩, ⟨bf I.out⟩, ⟨bf L.out⟩, ⟨by (with_reducible repeat (first | refine blk_drewN ?_ _ | refine blk_drew ?_ | refine blk_alloc ?_ _)); refine blk_put (cs := #[.slice none 0 0, .slice none 0 0]) ?_ 1 _ rfl; (with_reducible repeat (first | refine blk_drewN ?_ _ | refine blk_drew ?_ | refine blk_alloc ?_ _)); refine blk_put (cs := #[.slice none 0 0, .slice none 0 0]) ?_ 0 _ rfl; exact bf M.out⟩, ⟨bs HB.out⟩⟩
 case round =>
  clear H'
  try clear p2
  try clear c6
  try clear c7
  try clear bL bM
  try clear bN
  obtain ⟨z, Y, ad, bk, bl, rfl, HA, aK, O, T, I, L, M, HB⟩ := hrel
  cases gk with
  | zero => exact absurd HA.out (by simp [spec_l2Near.l0])
  | succ k1 =>
   have H := HA.out
   clear HA
   simp only [spec_l2Near.l0] at H
   by_cases c9 : z < (D.length : Int)
   ·rw [if_pos c9] at H
    have cJ : decide (z < (D.length : Int)) = true := decide_eq_true c9
    clear c9
    by_cases bw : 0 ≤ z
    ·rw [if_pos bw] at H
     have dp : decide (0 ≤ z) = true := decide_eq_true bw
     clear bw
     have bW := am H
     clear H
     have d2 := ba.out
     have d3 := bc.out
     have d4 := aw.out
     have d5 := ax.out
     obtain ⟨dq, dr⟩ := bc2 (w := wr) I.out
     have dt := blk_frozen I.out
     have bO : 0 ≤ (z : Int) := oda
     have bP : z < (D.length : Int) := oda
     obtain ⟨aC, du, bX, bY, bZ, b0, b7⟩ := at_T56 bI.out z bO bP
     cases du
     replace bX := cb HB bX
     replace bY := cb HB bY
     replace bZ := cb HB bZ
     replace b0 := cb HB b0
     replace b7 := cb HB b7
     replace bO := eq_true bO
     replace bP := eq_true bP
     go_upto_if 24 with (first | ((with_reducible refine gd 7 rfl ?_); refine bx 7 (cs := #[.int .i64 0, .int .i64 0]) (t := 36) ?_; intro J hg ab hbox hb; replace O := am (Kd.R_below (Kd.R_elderB (rl O.out) J (Nat.le_of_eq hg.symm)) hb); replace T := rb T hb; have X := am hbox; have aM := gwb HB hg; replace HB := hs HB hb; have aD := nq I hg; have aE := nq' I hg; replace I := bb I hb rfl; have aG := nq L hg; have aH := nq' L hg; replace L := bb L hb rfl; have aN := nq M hg; have aP := nq' M hg; replace M := bb M hb rfl; clear hb hbox hg; have cK := aE.out; have cL := aD.out; have cM := aH.out; have cN := aG.out; have cO := aP.out; have cP := aN.out; obtain ⟨b8, b9⟩ := bc2 (w := ab) X.out; have ce := blk_frozen X.out; have cQ := ap.out; have cR := aq.out; obtain ⟨cf, cg⟩ := bc2 (w := ab) L.out; have ch := blk_frozen L.out))
     repeat (go_quiet (first | ((with_reducible refine gd 7 rfl ?_); refine bx 7 (cs := #[.int .i64 0, .int .i64 0]) (t := 36) ?_; intro J hg ab hbox hb; replace O := am (Kd.R_below (Kd.R_elderB (rl O.out) J (Nat.le_of_eq hg.symm)) hb); replace T := rb T hb; have X := am hbox; have aM := gwb HB hg; replace HB := hs HB hb; have aD := nq I hg; have aE := nq' I hg; replace I := bb I hb rfl; have aG := nq L hg; have aH := nq' L hg; replace L := bb L hb rfl; have aN := nq M hg; have aP := nq' M hg; replace M := bb M hb rfl; clear hb hbox hg; have cK := aE.out; have cL := aD.out; have cM := aH.out; have cN := aG.out; have cO := aP.out; have cP := aN.out; obtain ⟨b8, b9⟩ := bc2 (w := ab) X.out; have ce := blk_frozen X.out; have cQ := ap.out; have cR := aq.out; obtain ⟨cf, cg⟩ := bc2 (w := ab) L.out; have ch := blk_frozen L.out)); go_upto_if 24 with (first | ((with_reducible refine gd 7 rfl ?_); refine bx 7 (cs := #[.int .i64 0, .int .i64 0]) (t := 36) ?_; intro J hg ab hbox hb; replace O := am (Kd.R_below (Kd.R_elderB (rl O.out) J (Nat.le_of_eq hg.symm)) hb); replace T := rb T hb; have X := am hbox; have aM := gwb HB hg; replace HB := hs HB hb; have aD := nq I hg; have aE := nq' I hg; replace I := bb I hb rfl; have aG := nq L hg; have aH := nq' L hg; replace L := bb L hb rfl; have aN := nq M hg; have aP := nq' M hg; replace M := bb M hb rfl; clear hb hbox hg; have cK := aE.out; have cL := aD.out; have cM := aH.out; have cN := aG.out; have cO := aP.out; have cP := aN.out; obtain ⟨b8, b9⟩ := bc2 (w := ab) X.out; have ce := blk_frozen X.out; have cQ := ap.out; have cR := aq.out; obtain ⟨cf, cg⟩ := bc2 (w := ab) L.out; have ch := blk_frozen L.out)))
     (try simp only [Act.put, List.setIfInBounds_toArray, List.set_cons_zero, List.set_cons_succ])
     go_cut [] (fun wc => ∃ (kq : Nat) (ar : Int) (au : Int), Aside0 (spec_l2Near.j1 kq z av D Z aa Y ad ar au = some r) ∧ Aside0 (kq ≤ k1) ∧ Aside0 (Kd.R k36 36 wc w.heap.size (fun k_ => k_ ≠ ac ∧ k_ ≠ J) bk Y) ∧ Aside0 (Kd.R k56 56 wc w.heap.size (fun _ => True) bl ad) ∧ Aside0 (wc.heap[bJ]? = some (.cells #[(.slice a7 av.length a8), (.slice (some aC) D.length a9)] 34 (0, 0))) ∧ Aside0 (wc.heap[ac]? = some (.cells #[.int .i64 Z, .int .i64 aa] 36 (0, 0))) ∧ Aside0 (wc.heap[bK]? = some (.cells #[bk, bl] 34 (0, 0))) ∧ Aside0 (wc.heap[J]? = some (.cells #[.int .i64 ar, .int .i64 au] 36 (0, 0))) ∧ Aside0 (Below w.heap.size w wc))
     case first =>
      have H := bW.out
      clear bW
      by_cases ay : (((rd_T56 D z).f1.f0) == Z && (((rd_T56 D z).f1.f1) == aa)) = true
      ·rw [if_pos ay] at H
       have bm : (((rd_T56 D z).f1.f0) == Z && (((rd_T56 D z).f1.f1) == aa)) = true := ay
       (try (have cS : decide (((rd_T56 D z).f1.f0) = Z && (((rd_T56 D z).f1.f1) == aa)) = true := by simpa using ay))
       (try (have cT : (((rd_T56 D z).f1.f0) == Z && (((rd_T56 D z).f1.f1) == aa)) = true := by simpa using ay))
       clear ay
       (first | rw [bm] | (simp only [i64_w, i32_w]; rw [bm]) | skip)
       have H' := am H
       clear H
       have d6 := ba.out
       have d7 := bc.out
       have d8 := aw.out
       have d9 := ax.out
       have ea := aD.out
       have eb := aE.out
       obtain ⟨dv, dw⟩ := bc2 (w := ab) I.out
       have dx := blk_frozen I.out
       have bQ : 0 ≤ (z : Int) := oda
       have bR : z < (D.length : Int) := oda
       obtain ⟨dy, dz, aI, aQ, aT, aU, aV⟩ := at_T56 bI.out z bQ bR
       obtain rfl : aC = dy := (by injection dz)
       have hn244_0 : aC.block ≠ J := Nat.ne_of_lt (Nat.lt_of_lt_of_le (by have := World.block_lt_of_cell? _ _ aI; first | rwa [add_block] at this | exact this) aM.out)
       have hn244_1 : aC.block ≠ J := Nat.ne_of_lt (Nat.lt_of_lt_of_le (by have := World.block_lt_of_cell? _ _ aI; first | rwa [add_block] at this | exact this) aM.out)
       replace aI := cb HB aI
       replace aQ := cb HB aQ
       replace aT := cb HB aT
       replace aU := cb HB aU
       replace aV := cb HB aV
       replace aI := (cell_far (p := ⟨J, 0, none⟩) (by first | (rw [add_block]; exact hn244_0) | (show (Addr.add _ _).block ≠ _; rw [add_block]; exact hn244_0) | exact hn244_0) (.int .i64 ((rd_T56 D z).f1.f0))).trans aI
       replace aQ := (cell_far (p := ⟨J, 0, none⟩) (by first | (rw [add_block]; exact hn244_0) | (show (Addr.add _ _).block ≠ _; rw [add_block]; exact hn244_0) | exact hn244_0) (.int .i64 ((rd_T56 D z).f1.f0))).trans aQ
       replace aT := (cell_far (p := ⟨J, 0, none⟩) (by first | (rw [add_block]; exact hn244_0) | (show (Addr.add _ _).block ≠ _; rw [add_block]; exact hn244_0) | exact hn244_0) (.int .i64 ((rd_T56 D z).f1.f0))).trans aT
       replace aU := (cell_far (p := ⟨J, 0, none⟩) (by first | (rw [add_block]; exact hn244_0) | (show (Addr.add _ _).block ≠ _; rw [add_block]; exact hn244_0) | exact hn244_0) (.int .i64 ((rd_T56 D z).f1.f0))).trans aU
       replace aV := (cell_far (p := ⟨J, 0, none⟩) (by first | (rw [add_block]; exact hn244_0) | (show (Addr.add _ _).block ≠ _; rw [add_block]; exact hn244_0) | exact hn244_0) (.int .i64 ((rd_T56 D z).f1.f0))).trans aV
       replace aI := (cell_far (p := ⟨J, 1, none⟩) (by first | (rw [add_block]; exact hn244_1) | (show (Addr.add _ _).block ≠ _; rw [add_block]; exact hn244_1) | exact hn244_1) (.int .i64 ((rd_T56 D z).f1.f1))).trans aI
       replace aQ := (cell_far (p := ⟨J, 1, none⟩) (by first | (rw [add_block]; exact hn244_1) | (show (Addr.add _ _).block ≠ _; rw [add_block]; exact hn244_1) | exact hn244_1) (.int .i64 ((rd_T56 D z).f1.f1))).trans aQ
       replace aT := (cell_far (p := ⟨J, 1, none⟩) (by first | (rw [add_block]; exact hn244_1) | (show (Addr.add _ _).block ≠ _; rw [add_block]; exact hn244_1) | exact hn244_1) (.int .i64 ((rd_T56 D z).f1.f1))).trans aT
       replace aU := (cell_far (p := ⟨J, 1, none⟩) (by first | (rw [add_block]; exact hn244_1) | (show (Addr.add _ _).block ≠ _; rw [add_block]; exact hn244_1) | exact hn244_1) (.int .i64 ((rd_T56 D z).f1.f1))).trans aU
       replace aV := (cell_far (p := ⟨J, 1, none⟩) (by first | (rw [add_block]; exact hn244_1) | (show (Addr.add _ _).block ≠ _; rw [add_block]; exact hn244_1) | exact hn244_1) (.int .i64 ((rd_T56 D z).f1.f1))).trans aV
       (try have hy244_0 := fun (n_ : Nat) => (show ((((ab.drewN n_).setCell ⟨J, 0, none⟩ (.int .i64 ((rd_T56 D z).f1.f0))).setCell ⟨J, 1, none⟩ (.int .i64 ((rd_T56 D z).f1.f1)))).cell? _ = some _ from aI))
       (try have hy244_1 := fun (n_ : Nat) => (show ((((ab.drewN n_).setCell ⟨J, 0, none⟩ (.int .i64 ((rd_T56 D z).f1.f0))).setCell ⟨J, 1, none⟩ (.int .i64 ((rd_T56 D z).f1.f1)))).cell? _ = some _ from aQ))
       (try have hy244_2 := fun (n_ : Nat) => (show ((((ab.drewN n_).setCell ⟨J, 0, none⟩ (.int .i64 ((rd_T56 D z).f1.f0))).setCell ⟨J, 1, none⟩ (.int .i64 ((rd_T56 D z).f1.f1)))).cell? _ = some _ from aT))
       (try have hy244_3 := fun (n_ : Nat) => (show ((((ab.drewN n_).setCell ⟨J, 0, none⟩ (.int .i64 ((rd_T56 D z).f1.f0))).setCell ⟨J, 1, none⟩ (.int .i64 ((rd_T56 D z).f1.f1)))).cell? _ = some _ from aU))
       (try have hy244_4 := fun (n_ : Nat) => (show ((((ab.drewN n_).setCell ⟨J, 0, none⟩ (.int .i64 ((rd_T56 D z).f1.f0))).setCell ⟨J, 1, none⟩ (.int .i64 ((rd_T56 D z).f1.f1)))).cell? _ = some _ from aV))
       clear hn244_0
       clear hn244_1
       replace bQ := eq_true bQ
       replace bR := eq_true bR
       have ec := aH.out
       have ed := aG.out
       have ee := aP.out
       have ef := aN.out
       obtain ⟨dA, dB⟩ := bc2 (w := ab) X.out
       have dC := blk_frozen X.out
       go_wp2
       repeat (go_quiet (fail); try go_wp2)
       go_meet
       case rel => exact ⟨_, ((rd_T56 D z).f2.f0), ((rd_T56 D z).f2.f1), H', ⟨by have := aK.out; first | omega | exact Nat.le_refl _⟩, ⟨by (with_reducible repeat (first | apply Kd.R_alloc | apply Kd.R_drewN | apply Kd.R_drew)); exact Kd.R_mono (Kd.R_far (p := ⟨J, 1, none⟩) (Kd.R_far (p := ⟨J, 0, none⟩) (Kd.R_far (p := ⟨J, 1, none⟩) (Kd.R_far (p := ⟨J, 0, none⟩) (Kd.R_mono O.out (fun k_ hk => (⟨hk, hk.2⟩ : _ ∧ k_ ≠ J))) (fun _ hk => hk.2) (.int .i64 ((rd_T56 D z).f1.f0))) (fun _ hk => hk.2) (.int .i64 ((rd_T56 D z).f1.f1))) (fun _ hk => hk.2) (.int .i64 ((rd_T56 D z).f2.f0))) (fun _ hk => hk.2) (.int .i64 ((rd_T56 D z).f2.f1))) (fun _ hk => ⟨hk.1.1, hk.1.2⟩)⟩, ⟨Kd.R_mono (rt T.out X.out (by decide)) (fun _ hk => trivial)⟩, ⟨bf I.out⟩, ⟨bf L.out⟩, ⟨bf M.out⟩, ⟨by (with_reducible repeat (first | refine blk_drewN ?_ _ | refine blk_drew ?_ | refine blk_alloc ?_ _)); refine blk_put (cs := #[.int .i64 ((rd_T56 D z).f2.f0), .int .i64 ((rd_T56 D z).f1.f1)]) ?_ 1 _ rfl; (with_reducible repeat (first | refine blk_drewN ?_ _ | refine blk_drew ?_ | refine blk_alloc ?_ _)); refine blk_put (cs := #[.int .i64 ((rd_T56 D z).f1.f0), .int .i64 ((rd_T56 D z).f1.f1)]) ?_ 0 _ rfl; (with_reducible repeat (first | refine blk_drewN ?_ _ | refine blk_drew ?_ | refine blk_alloc ?_ _)); refine blk_put (cs := #[.int .i64 ((rd_T56 D z).f1.f0), .int .i64 0]) ?_ 1 _ rfl; (with_reducible repeat (first | refine blk_drewN ?_ _ | refine blk_drew ?_ | refine blk_alloc ?_ _)); refine blk_put (cs := #[.int .i64 0, .int .i64 0]) ?_ 0 _ rfl; exact bf X.out⟩, ⟨bs HB.out⟩⟩
      ·rw [if_neg ay] at H
       have bm : (((rd_T56 D z).f1.f0) == Z && (((rd_T56 D z).f1.f1) == aa)) = false := by simpa using ay
       (try (have cS : decide (((rd_T56 D z).f1.f0) = Z && (((rd_T56 D z).f1.f1) == aa)) = false := by simpa using ay))
       (try (have cT : (((rd_T56 D z).f1.f0) == Z && (((rd_T56 D z).f1.f1) == aa)) = false := by simpa using ay))
       (try (have eg : ¬ (((rd_T56 D z).f1.f0) = Z && (((rd_T56 D z).f1.f1) == aa)) := by simpa using ay))
       clear ay
       (first | rw [bm] | (simp only [i64_w, i32_w]; rw [bm]) | skip)
       by_cases be : (!(((rd_T56 D z).f2.f0) == Z) || (!(((rd_T56 D z).f2.f1) == aa))) = true
       ·rw [if_pos be] at H
        have cU : (!(((rd_T56 D z).f2.f0) == Z) || (!(((rd_T56 D z).f2.f1) == aa))) = true := be
        clear be
        have H' := am H
        clear H
        have eh := ba.out
        have ei := bc.out
        have ej := aw.out
        have ek := ax.out
        have el := aD.out
        have em := aE.out
        obtain ⟨dD, dE⟩ := bc2 (w := ab) I.out
        have dF := blk_frozen I.out
        have aW : 0 ≤ (z : Int) := oda
        have aX : z < (D.length : Int) := oda
        obtain ⟨ci, cj, ae, ak, al, an, ao⟩ := at_T56 bI.out z aW aX
        obtain rfl : aC = ci := (by injection cj)
        have hn245_0 : aC.block ≠ J := Nat.ne_of_lt (Nat.lt_of_lt_of_le (by have := World.block_lt_of_cell? _ _ ae; first | rwa [add_block] at this | exact this) aM.out)
        have hn245_1 : aC.block ≠ J := Nat.ne_of_lt (Nat.lt_of_lt_of_le (by have := World.block_lt_of_cell? _ _ ae; first | rwa [add_block] at this | exact this) aM.out)
        replace ae := cb HB ae
        replace ak := cb HB ak
        replace al := cb HB al
        replace an := cb HB an
        replace ao := cb HB ao
        replace ae := (cell_far (p := ⟨J, 0, none⟩) (by first | (rw [add_block]; exact hn245_0) | (show (Addr.add _ _).block ≠ _; rw [add_block]; exact hn245_0) | exact hn245_0) (.int .i64 ((rd_T56 D z).f1.f0))).trans ae
        replace ak := (cell_far (p := ⟨J, 0, none⟩) (by first | (rw [add_block]; exact hn245_0) | (show (Addr.add _ _).block ≠ _; rw [add_block]; exact hn245_0) | exact hn245_0) (.int .i64 ((rd_T56 D z).f1.f0))).trans ak
        replace al := (cell_far (p := ⟨J, 0, none⟩) (by first | (rw [add_block]; exact hn245_0) | (show (Addr.add _ _).block ≠ _; rw [add_block]; exact hn245_0) | exact hn245_0) (.int .i64 ((rd_T56 D z).f1.f0))).trans al
        replace an := (cell_far (p := ⟨J, 0, none⟩) (by first | (rw [add_block]; exact hn245_0) | (show (Addr.add _ _).block ≠ _; rw [add_block]; exact hn245_0) | exact hn245_0) (.int .i64 ((rd_T56 D z).f1.f0))).trans an
        replace ao := (cell_far (p := ⟨J, 0, none⟩) (by first | (rw [add_block]; exact hn245_0) | (show (Addr.add _ _).block ≠ _; rw [add_block]; exact hn245_0) | exact hn245_0) (.int .i64 ((rd_T56 D z).f1.f0))).trans ao
        replace ae := (cell_far (p := ⟨J, 1, none⟩) (by first | (rw [add_block]; exact hn245_1) | (show (Addr.add _ _).block ≠ _; rw [add_block]; exact hn245_1) | exact hn245_1) (.int .i64 ((rd_T56 D z).f1.f1))).trans ae
        replace ak := (cell_far (p := ⟨J, 1, none⟩) (by first | (rw [add_block]; exact hn245_1) | (show (Addr.add _ _).block ≠ _; rw [add_block]; exact hn245_1) | exact hn245_1) (.int .i64 ((rd_T56 D z).f1.f1))).trans ak
        replace al := (cell_far (p := ⟨J, 1, none⟩) (by first | (rw [add_block]; exact hn245_1) | (show (Addr.add _ _).block ≠ _; rw [add_block]; exact hn245_1) | exact hn245_1) (.int .i64 ((rd_T56 D z).f1.f1))).trans al
        replace an := (cell_far (p := ⟨J, 1, none⟩) (by first | (rw [add_block]; exact hn245_1) | (show (Addr.add _ _).block ≠ _; rw [add_block]; exact hn245_1) | exact hn245_1) (.int .i64 ((rd_T56 D z).f1.f1))).trans an
        replace ao := (cell_far (p := ⟨J, 1, none⟩) (by first | (rw [add_block]; exact hn245_1) | (show (Addr.add _ _).block ≠ _; rw [add_block]; exact hn245_1) | exact hn245_1) (.int .i64 ((rd_T56 D z).f1.f1))).trans ao
        (try have hy245_0 := fun (n_ : Nat) => (show ((((ab.drewN n_).setCell ⟨J, 0, none⟩ (.int .i64 ((rd_T56 D z).f1.f0))).setCell ⟨J, 1, none⟩ (.int .i64 ((rd_T56 D z).f1.f1)))).cell? _ = some _ from ae))
        (try have hy245_1 := fun (n_ : Nat) => (show ((((ab.drewN n_).setCell ⟨J, 0, none⟩ (.int .i64 ((rd_T56 D z).f1.f0))).setCell ⟨J, 1, none⟩ (.int .i64 ((rd_T56 D z).f1.f1)))).cell? _ = some _ from ak))
        (try have hy245_2 := fun (n_ : Nat) => (show ((((ab.drewN n_).setCell ⟨J, 0, none⟩ (.int .i64 ((rd_T56 D z).f1.f0))).setCell ⟨J, 1, none⟩ (.int .i64 ((rd_T56 D z).f1.f1)))).cell? _ = some _ from al))
        (try have hy245_3 := fun (n_ : Nat) => (show ((((ab.drewN n_).setCell ⟨J, 0, none⟩ (.int .i64 ((rd_T56 D z).f1.f0))).setCell ⟨J, 1, none⟩ (.int .i64 ((rd_T56 D z).f1.f1)))).cell? _ = some _ from an))
        (try have hy245_4 := fun (n_ : Nat) => (show ((((ab.drewN n_).setCell ⟨J, 0, none⟩ (.int .i64 ((rd_T56 D z).f1.f0))).setCell ⟨J, 1, none⟩ (.int .i64 ((rd_T56 D z).f1.f1)))).cell? _ = some _ from ao))
        clear hn245_0
        clear hn245_1
        replace aW := eq_true aW
        replace aX := eq_true aX
        have en := ap.out
        have eo := aq.out
        have ep := aG.out
        have eq := aH.out
        obtain ⟨dG, dH⟩ := bc2 (w := ab) L.out
        have dI := blk_frozen L.out
        go_wp2
        repeat (go_quiet (fail); try go_wp2)
        go_roundg k1
        case measure => have := aK.out; omega
        case rel => exact ⟨(wrap64 (z + 1)), (Y), (ad), (bk), (bl), eqs, H', ⟨by have := aK.out; omega⟩, ⟨by (with_reducible repeat (first | apply Kd.R_alloc | apply Kd.R_drewN | apply Kd.R_drew)); exact Kd.R_mono (Kd.R_far (p := ⟨J, 1, none⟩) (Kd.R_far (p := ⟨J, 0, none⟩) (Kd.R_mono O.out (fun k_ hk => (⟨hk, hk.2⟩ : _ ∧ k_ ≠ J))) (fun _ hk => hk.2) (.int .i64 ((rd_T56 D z).f1.f0))) (fun _ hk => hk.2) (.int .i64 ((rd_T56 D z).f1.f1))) (fun _ hk => hk.1.1)⟩, ⟨Kd.R_mono (rt T.out X.out (by decide)) (fun _ hk => trivial)⟩, ⟨bf I.out⟩, ⟨bf L.out⟩, ⟨bf M.out⟩, ⟨bs HB.out⟩⟩
       ·rw [if_neg be] at H
        have cU : (!(((rd_T56 D z).f2.f0) == Z) || (!(((rd_T56 D z).f2.f1) == aa))) = false := by simpa using be
        clear be
        have H' := am H
        clear H
        have er := ba.out
        have es := bc.out
        have et := aw.out
        have eu := ax.out
        have ev := aD.out
        have ew := aE.out
        obtain ⟨dJ, dK⟩ := bc2 (w := ab) I.out
        have dL := blk_frozen I.out
        have aW : 0 ≤ (z : Int) := oda
        have aX : z < (D.length : Int) := oda
        obtain ⟨ci, cj, ae, ak, al, an, ao⟩ := at_T56 bI.out z aW aX
        obtain rfl : aC = ci := (by injection cj)
        have hn245_0 : aC.block ≠ J := Nat.ne_of_lt (Nat.lt_of_lt_of_le (by have := World.block_lt_of_cell? _ _ ae; first | rwa [add_block] at this | exact this) aM.out)
        have hn245_1 : aC.block ≠ J := Nat.ne_of_lt (Nat.lt_of_lt_of_le (by have := World.block_lt_of_cell? _ _ ae; first | rwa [add_block] at this | exact this) aM.out)
        replace ae := cb HB ae
        replace ak := cb HB ak
        replace al := cb HB al
        replace an := cb HB an
        replace ao := cb HB ao
        replace ae := (cell_far (p := ⟨J, 0, none⟩) (by first | (rw [add_block]; exact hn245_0) | (show (Addr.add _ _).block ≠ _; rw [add_block]; exact hn245_0) | exact hn245_0) (.int .i64 ((rd_T56 D z).f1.f0))).trans ae
        replace ak := (cell_far (p := ⟨J, 0, none⟩) (by first | (rw [add_block]; exact hn245_0) | (show (Addr.add _ _).block ≠ _; rw [add_block]; exact hn245_0) | exact hn245_0) (.int .i64 ((rd_T56 D z).f1.f0))).trans ak
        replace al := (cell_far (p := ⟨J, 0, none⟩) (by first | (rw [add_block]; exact hn245_0) | (show (Addr.add _ _).block ≠ _; rw [add_block]; exact hn245_0) | exact hn245_0) (.int .i64 ((rd_T56 D z).f1.f0))).trans al
        replace an := (cell_far (p := ⟨J, 0, none⟩) (by first | (rw [add_block]; exact hn245_0) | (show (Addr.add _ _).block ≠ _; rw [add_block]; exact hn245_0) | exact hn245_0) (.int .i64 ((rd_T56 D z).f1.f0))).trans an
        replace ao := (cell_far (p := ⟨J, 0, none⟩) (by first | (rw [add_block]; exact hn245_0) | (show (Addr.add _ _).block ≠ _; rw [add_block]; exact hn245_0) | exact hn245_0) (.int .i64 ((rd_T56 D z).f1.f0))).trans ao
        replace ae := (cell_far (p := ⟨J, 1, none⟩) (by first | (rw [add_block]; exact hn245_1) | (show (Addr.add _ _).block ≠ _; rw [add_block]; exact hn245_1) | exact hn245_1) (.int .i64 ((rd_T56 D z).f1.f1))).trans ae
        replace ak := (cell_far (p := ⟨J, 1, none⟩) (by first | (rw [add_block]; exact hn245_1) | (show (Addr.add _ _).block ≠ _; rw [add_block]; exact hn245_1) | exact hn245_1) (.int .i64 ((rd_T56 D z).f1.f1))).trans ak
        replace al := (cell_far (p := ⟨J, 1, none⟩) (by first | (rw [add_block]; exact hn245_1) | (show (Addr.add _ _).block ≠ _; rw [add_block]; exact hn245_1) | exact hn245_1) (.int .i64 ((rd_T56 D z).f1.f1))).trans al
        replace an := (cell_far (p := ⟨J, 1, none⟩) (by first | (rw [add_block]; exact hn245_1) | (show (Addr.add _ _).block ≠ _; rw [add_block]; exact hn245_1) | exact hn245_1) (.int .i64 ((rd_T56 D z).f1.f1))).trans an
        replace ao := (cell_far (p := ⟨J, 1, none⟩) (by first | (rw [add_block]; exact hn245_1) | (show (Addr.add _ _).block ≠ _; rw [add_block]; exact hn245_1) | exact hn245_1) (.int .i64 ((rd_T56 D z).f1.f1))).trans ao
        (try have hy245_0 := fun (n_ : Nat) => (show ((((ab.drewN n_).setCell ⟨J, 0, none⟩ (.int .i64 ((rd_T56 D z).f1.f0))).setCell ⟨J, 1, none⟩ (.int .i64 ((rd_T56 D z).f1.f1)))).cell? _ = some _ from ae))
        (try have hy245_1 := fun (n_ : Nat) => (show ((((ab.drewN n_).setCell ⟨J, 0, none⟩ (.int .i64 ((rd_T56 D z).f1.f0))).setCell ⟨J, 1, none⟩ (.int .i64 ((rd_T56 D z).f1.f1)))).cell? _ = some _ from ak))
        (try have hy245_2 := fun (n_ : Nat) => (show ((((ab.drewN n_).setCell ⟨J, 0, none⟩ (.int .i64 ((rd_T56 D z).f1.f0))).setCell ⟨J, 1, none⟩ (.int .i64 ((rd_T56 D z).f1.f1)))).cell? _ = some _ from al))
        (try have hy245_3 := fun (n_ : Nat) => (show ((((ab.drewN n_).setCell ⟨J, 0, none⟩ (.int .i64 ((rd_T56 D z).f1.f0))).setCell ⟨J, 1, none⟩ (.int .i64 ((rd_T56 D z).f1.f1)))).cell? _ = some _ from an))
        (try have hy245_4 := fun (n_ : Nat) => (show ((((ab.drewN n_).setCell ⟨J, 0, none⟩ (.int .i64 ((rd_T56 D z).f1.f0))).setCell ⟨J, 1, none⟩ (.int .i64 ((rd_T56 D z).f1.f1)))).cell? _ = some _ from ao))
        clear hn245_0
        clear hn245_1
        replace aW := eq_true aW
        replace aX := eq_true aX
        have ex := ap.out
        have ey := aq.out
        have ez := aG.out
        have eA := aH.out
        obtain ⟨dM, dN⟩ := bc2 (w := ab) L.out
        have dO := blk_frozen L.out
        go_wp2
        repeat (go_quiet (fail); try go_wp2)
        go_meet
        case rel => exact ⟨_, ((rd_T56 D z).f1.f0), ((rd_T56 D z).f1.f1), H', ⟨by have := aK.out; first | omega | exact Nat.le_refl _⟩, ⟨by (with_reducible repeat (first | apply Kd.R_alloc | apply Kd.R_drewN | apply Kd.R_drew)); exact Kd.R_mono (Kd.R_far (p := ⟨J, 1, none⟩) (Kd.R_far (p := ⟨J, 0, none⟩) (Kd.R_mono O.out (fun k_ hk => (⟨hk, hk.2⟩ : _ ∧ k_ ≠ J))) (fun _ hk => hk.2) (.int .i64 ((rd_T56 D z).f1.f0))) (fun _ hk => hk.2) (.int .i64 ((rd_T56 D z).f1.f1))) (fun _ hk => ⟨hk.1.1, hk.1.2⟩)⟩, ⟨Kd.R_mono (rt T.out X.out (by decide)) (fun _ hk => trivial)⟩, ⟨bf I.out⟩, ⟨bf L.out⟩, ⟨bf M.out⟩, ⟨by (with_reducible repeat (first | refine blk_drewN ?_ _ | refine blk_drew ?_ | refine blk_alloc ?_ _)); refine blk_put (cs := #[.int .i64 ((rd_T56 D z).f1.f0), .int .i64 0]) ?_ 1 _ rfl; (with_reducible repeat (first | refine blk_drewN ?_ _ | refine blk_drew ?_ | refine blk_alloc ?_ _)); refine blk_put (cs := #[.int .i64 0, .int .i64 0]) ?_ 0 _ rfl; exact bf X.out⟩, ⟨bs HB.out⟩⟩
     case rest =>
      clear bW
      try clear c1
      try clear c2
      try clear p2
      try clear q2
      try clear eB
      try clear c3
      try clear c4
      try clear c6
      try clear p6
      try clear c7
      try clear c9
      try clear cJ
      try clear bw
      try clear dp
      try clear eC
      try clear eD
      try clear eE
      try clear eF
      try clear eG
      try clear eH
      try clear ay
      try clear bm
      try clear cS
      try clear cT
      try clear eI
      try clear eJ
      try clear eK
      try clear eL
      try clear eM
      try clear eN
      try clear eO
      try clear eP
      try clear be
      try clear cU
      try clear eQ
      try clear eR
      try clear eS
      try clear eT
      try clear eU
      try clear eV
      try clear eW
      try clear eX
      try clear eY
      try clear eZ
      try clear dq dr
      try clear b8 b9
      try clear cf cg
      try clear dv dw
      try clear dA dB
      try clear dD dE
      try clear dG dH
      try clear dJ dK
      try clear dM dN
      try clear bL bM
      try clear dt
      try clear ce
      try clear ch
      try clear dx
      try clear dC
      try clear dF
      try clear dI
      try clear dL
      try clear dO
      try clear bN
      try clear bX
      try clear bY
      try clear bZ
      try clear b0
      try clear b7
      try clear aI
      try clear aQ
      try clear aT
      try clear aU
      try clear aV
      try clear ae
      try clear ak
      try clear al
      try clear an
      try clear ao
      try clear p2
      try clear bO
      try clear bQ
      try clear aW
      try clear bP
      try clear bR
      try clear aX
      obtain ⟨kq, ar, au, HA, bS, O, T, I, L, M, X, HB⟩ := hcut
      cases kq with
      | zero => exact absurd HA.out (by simp [spec_l2Near.j1])
      | succ az =>
       have H := HA.out
       clear HA
       simp only [spec_l2Near.j1] at H
       replace H := Option.bind_eq_some_iff.mp H
       obtain ⟨aJ, cV, H⟩ := H
       try dsimp -simprocs only at H
       have bn := am cV
       clear cV
       by_cases bo : aJ < 0
       ·rw [if_pos bo] at H
        have dP : decide (aJ < 0) = true := decide_eq_true bo
        clear bo
        replace H := Option.bind_eq_some_iff.mp H
        obtain ⟨⟨br, bz⟩, cW, H⟩ := H
        try dsimp -simprocs only at H
        have ck := am cW
        clear cW
        have H' := am H
        clear H
        have e0 := ax.out
        have e1 := aw.out
        have e2 := aq.out
        have e3 := ap.out
        have e4 := aN.out
        have e5 := aP.out
        obtain ⟨e6, e7⟩ := bc2 (w := wc) M.out
        have e8 := blk_frozen M.out
        have e9 := aE.out
        have fa := aD.out
        have fb := aH.out
        have fc := aG.out
        obtain ⟨fd, fe⟩ := bc2 (w := wc) X.out
        have ff := blk_frozen X.out
        obtain ⟨bg, bh, dQ⟩ := Kd.R_slice O.out
        subst dQ
        obtain ⟨aY, aZ, dR⟩ := Kd.R_slice T.out
        subst dR
        go_wp2_with (first | (go_at_call 62; (with_reducible refine (spec_l2At.calls az _ _ Y _ _ ad ar au aJ _ ?ah ?ai ?aj ?aA bn.out).mono ?_); (case ah => exact cr O); (case ai => exact cc O); (case aj => exact cr T); (case aA => exact cc T); rintro e a4 ⟨rfl, hb⟩; replace O := rb O hb; replace T := rb T hb; replace I := bb I hb rfl; replace L := bb L hb rfl; replace M := bb M hb rfl; replace X := bb X hb rfl; replace HB := hs HB hb; (try clear hb); obtain ⟨cX, cY⟩ := bc2 (w := a4) M.out; have cZ := blk_frozen M.out; obtain ⟨c0, c5⟩ := bc2 (w := a4) X.out; have c8 := blk_frozen X.out) | (go_at_call 109; (with_reducible refine (spec_l2PutNode.calls az (fun k_ => some k_ = (.slice bg Y.length bh : Value).ownBlock) (.slice bg Y.length bh) Y (fun k_ => some k_ = (.slice aY ad.length aZ : Value).ownBlock) (.slice aY ad.length aZ) ad ar au br bz w _ ?ah ?ai ?aj ck.out).mono ?_); (case ah => exact bs HB.out); (case ai => exact Kd.R_tight rfl O.out); (case aj => exact Kd.R_tight rfl T.out); rintro e bA ⟨da, db, rfl, a5, a6, hb, hkp⟩; replace I := am (blk_kept (bf I.out) hkp (fun hs_ => Or.elim hs_ (fun e_ => (fun e_ => (Kd.R_ne O.out I.out (by decide)) e_) e_) (fun e_ => (fun e_ => (Kd.R_ne T.out I.out (by decide)) e_) e_))); replace M := am (blk_kept (bf M.out) hkp (fun hs_ => Or.elim hs_ (fun e_ => (fun e_ => (Kd.R_ne O.out M.out (by decide)) e_) e_) (fun e_ => (fun e_ => (Kd.R_ne T.out M.out (by decide)) e_) e_))); have bt := am (Kd.R_mono (ok' := fun k_ => k_ ≠ ac ∧ k_ ≠ J) a5 (fun k_ hk_ => ⟨Or.elim hk_ (fun hs_ => Or.elim hs_ (fun hs_ => fun e_ => (Kd.R_away O.out (fun _ hk => hk.1)) (by rw [← e_]; exact hs_)) (fun hs_ => fun e_ => (Kd.R_ne T.out L.out (by decide)) (by rw [← e_]; exact hs_))) (fun hn_ => (Kd.freshB (g := ac) (o := .cells #[.int .i64 Z, .int .i64 aa] 36 (0, 0)) (bf L.out) k_ hn_)), Or.elim hk_ (fun hs_ => Or.elim hs_ (fun hs_ => fun e_ => (Kd.R_away O.out (fun _ hk => hk.2)) (by rw [← e_]; exact hs_)) (fun hs_ => fun e_ => (Kd.R_ne T.out X.out (by decide)) (by rw [← e_]; exact hs_))) (fun hn_ => (Kd.freshB (g := J) (o := .cells #[.int .i64 ar, .int .i64 au] 36 (0, 0)) (bf X.out) k_ hn_))⟩)); replace L := am (blk_kept (bf L.out) hkp (fun hs_ => Or.elim hs_ (fun e_ => (fun e_ => (Kd.R_away O.out (fun _ hk => hk.1)) e_) e_) (fun e_ => (fun e_ => (Kd.R_ne T.out L.out (by decide)) e_) e_))); replace X := am (blk_kept (bf X.out) hkp (fun hs_ => Or.elim hs_ (fun e_ => (fun e_ => (Kd.R_away O.out (fun _ hk => hk.2)) e_) e_) (fun e_ => (fun e_ => (Kd.R_ne T.out X.out (by decide)) e_) e_))); have bu := am (Kd.R_mono (ok' := fun k_ => True) a6 (fun k_ hk_ => trivial)); replace HB := am hb; clear O T; (try clear a5 a6 hb hkp); obtain ⟨bT, bU, bB⟩ := Kd.R_slice bt.out; subst bB; obtain ⟨dc, dd⟩ := bc2 (w := bA) M.out; have de := blk_frozen M.out; obtain ⟨cl, cm, bC⟩ := Kd.R_slice bu.out; subst bC))
        repeat (go_quiet (first | (go_at_call 62; (with_reducible refine (spec_l2At.calls az _ _ Y _ _ ad ar au aJ _ ?ah ?ai ?aj ?aA bn.out).mono ?_); (case ah => exact cr O); (case ai => exact cc O); (case aj => exact cr T); (case aA => exact cc T); rintro e a4 ⟨rfl, hb⟩; replace O := rb O hb; replace T := rb T hb; replace I := bb I hb rfl; replace L := bb L hb rfl; replace M := bb M hb rfl; replace X := bb X hb rfl; replace HB := hs HB hb; (try clear hb); obtain ⟨cX, cY⟩ := bc2 (w := a4) M.out; have cZ := blk_frozen M.out; obtain ⟨c0, c5⟩ := bc2 (w := a4) X.out; have c8 := blk_frozen X.out) | (go_at_call 109; (with_reducible refine (spec_l2PutNode.calls az (fun k_ => some k_ = (.slice bg Y.length bh : Value).ownBlock) (.slice bg Y.length bh) Y (fun k_ => some k_ = (.slice aY ad.length aZ : Value).ownBlock) (.slice aY ad.length aZ) ad ar au br bz w _ ?ah ?ai ?aj ck.out).mono ?_); (case ah => exact bs HB.out); (case ai => exact Kd.R_tight rfl O.out); (case aj => exact Kd.R_tight rfl T.out); rintro e bA ⟨da, db, rfl, a5, a6, hb, hkp⟩; replace I := am (blk_kept (bf I.out) hkp (fun hs_ => Or.elim hs_ (fun e_ => (fun e_ => (Kd.R_ne O.out I.out (by decide)) e_) e_) (fun e_ => (fun e_ => (Kd.R_ne T.out I.out (by decide)) e_) e_))); replace M := am (blk_kept (bf M.out) hkp (fun hs_ => Or.elim hs_ (fun e_ => (fun e_ => (Kd.R_ne O.out M.out (by decide)) e_) e_) (fun e_ => (fun e_ => (Kd.R_ne T.out M.out (by decide)) e_) e_))); have bt := am (Kd.R_mono (ok' := fun k_ => k_ ≠ ac ∧ k_ ≠ J) a5 (fun k_ hk_ => ⟨Or.elim hk_ (fun hs_ => Or.elim hs_ (fun hs_ => fun e_ => (Kd.R_away O.out (fun _ hk => hk.1)) (by rw [← e_]; exact hs_)) (fun hs_ => fun e_ => (Kd.R_ne T.out L.out (by decide)) (by rw [← e_]; exact hs_))) (fun hn_ => (Kd.freshB (g := ac) (o := .cells #[.int .i64 Z, .int .i64 aa] 36 (0, 0)) (bf L.out) k_ hn_)), Or.elim hk_ (fun hs_ => Or.elim hs_ (fun hs_ => fun e_ => (Kd.R_away O.out (fun _ hk => hk.2)) (by rw [← e_]; exact hs_)) (fun hs_ => fun e_ => (Kd.R_ne T.out X.out (by decide)) (by rw [← e_]; exact hs_))) (fun hn_ => (Kd.freshB (g := J) (o := .cells #[.int .i64 ar, .int .i64 au] 36 (0, 0)) (bf X.out) k_ hn_))⟩)); replace L := am (blk_kept (bf L.out) hkp (fun hs_ => Or.elim hs_ (fun e_ => (fun e_ => (Kd.R_away O.out (fun _ hk => hk.1)) e_) e_) (fun e_ => (fun e_ => (Kd.R_ne T.out L.out (by decide)) e_) e_))); replace X := am (blk_kept (bf X.out) hkp (fun hs_ => Or.elim hs_ (fun e_ => (fun e_ => (Kd.R_away O.out (fun _ hk => hk.2)) e_) e_) (fun e_ => (fun e_ => (Kd.R_ne T.out X.out (by decide)) e_) e_))); have bu := am (Kd.R_mono (ok' := fun k_ => True) a6 (fun k_ hk_ => trivial)); replace HB := am hb; clear O T; (try clear a5 a6 hb hkp); obtain ⟨bT, bU, bB⟩ := Kd.R_slice bt.out; subst bB; obtain ⟨dc, dd⟩ := bc2 (w := bA) M.out; have de := blk_frozen M.out; obtain ⟨cl, cm, bC⟩ := Kd.R_slice bu.out; subst bC)); try go_wp2_with (first | (go_at_call 62; (with_reducible refine (spec_l2At.calls az _ _ Y _ _ ad ar au aJ _ ?ah ?ai ?aj ?aA bn.out).mono ?_); (case ah => exact cr O); (case ai => exact cc O); (case aj => exact cr T); (case aA => exact cc T); rintro e a4 ⟨rfl, hb⟩; replace O := rb O hb; replace T := rb T hb; replace I := bb I hb rfl; replace L := bb L hb rfl; replace M := bb M hb rfl; replace X := bb X hb rfl; replace HB := hs HB hb; (try clear hb); obtain ⟨cX, cY⟩ := bc2 (w := a4) M.out; have cZ := blk_frozen M.out; obtain ⟨c0, c5⟩ := bc2 (w := a4) X.out; have c8 := blk_frozen X.out) | (go_at_call 109; (with_reducible refine (spec_l2PutNode.calls az (fun k_ => some k_ = (.slice bg Y.length bh : Value).ownBlock) (.slice bg Y.length bh) Y (fun k_ => some k_ = (.slice aY ad.length aZ : Value).ownBlock) (.slice aY ad.length aZ) ad ar au br bz w _ ?ah ?ai ?aj ck.out).mono ?_); (case ah => exact bs HB.out); (case ai => exact Kd.R_tight rfl O.out); (case aj => exact Kd.R_tight rfl T.out); rintro e bA ⟨da, db, rfl, a5, a6, hb, hkp⟩; replace I := am (blk_kept (bf I.out) hkp (fun hs_ => Or.elim hs_ (fun e_ => (fun e_ => (Kd.R_ne O.out I.out (by decide)) e_) e_) (fun e_ => (fun e_ => (Kd.R_ne T.out I.out (by decide)) e_) e_))); replace M := am (blk_kept (bf M.out) hkp (fun hs_ => Or.elim hs_ (fun e_ => (fun e_ => (Kd.R_ne O.out M.out (by decide)) e_) e_) (fun e_ => (fun e_ => (Kd.R_ne T.out M.out (by decide)) e_) e_))); have bt := am (Kd.R_mono (ok' := fun k_ => k_ ≠ ac ∧ k_ ≠ J) a5 (fun k_ hk_ => ⟨Or.elim hk_ (fun hs_ => Or.elim hs_ (fun hs_ => fun e_ => (Kd.R_away O.out (fun _ hk => hk.1)) (by rw [← e_]; exact hs_)) (fun hs_ => fun e_ => (Kd.R_ne T.out L.out (by decide)) (by rw [← e_]; exact hs_))) (fun hn_ => (Kd.freshB (g := ac) (o := .cells #[.int .i64 Z, .int .i64 aa] 36 (0, 0)) (bf L.out) k_ hn_)), Or.elim hk_ (fun hs_ => Or.elim hs_ (fun hs_ => fun e_ => (Kd.R_away O.out (fun _ hk => hk.2)) (by rw [← e_]; exact hs_)) (fun hs_ => fun e_ => (Kd.R_ne T.out X.out (by decide)) (by rw [← e_]; exact hs_))) (fun hn_ => (Kd.freshB (g := J) (o := .cells #[.int .i64 ar, .int .i64 au] 36 (0, 0)) (bf X.out) k_ hn_))⟩)); replace L := am (blk_kept (bf L.out) hkp (fun hs_ => Or.elim hs_ (fun e_ => (fun e_ => (Kd.R_away O.out (fun _ hk => hk.1)) e_) e_) (fun e_ => (fun e_ => (Kd.R_ne T.out L.out (by decide)) e_) e_))); replace X := am (blk_kept (bf X.out) hkp (fun hs_ => Or.elim hs_ (fun e_ => (fun e_ => (Kd.R_away O.out (fun _ hk => hk.2)) e_) e_) (fun e_ => (fun e_ => (Kd.R_ne T.out X.out (by decide)) e_) e_))); have bu := am (Kd.R_mono (ok' := fun k_ => True) a6 (fun k_ hk_ => trivial)); replace HB := am hb; clear O T; (try clear a5 a6 hb hkp); obtain ⟨bT, bU, bB⟩ := Kd.R_slice bt.out; subst bB; obtain ⟨dc, dd⟩ := bc2 (w := bA) M.out; have de := blk_frozen M.out; obtain ⟨cl, cm, bC⟩ := Kd.R_slice bu.out; subst bC)))
        go_roundg az
        case measure => have := aK.out; have := bS.out; omega
        case rel => exact ⟨(wrap64 (z + 1)), (br), (bz), (.slice bT br.length bU), (.slice cl bz.length cm), eqs, H', ⟨by have := aK.out; have := bS.out; omega⟩, ⟨Kd.R_mono (rt bt.out M.out (by decide)) (fun _ hk => hk.1)⟩, ⟨Kd.R_mono (rt bu.out M.out (by decide)) (fun _ hk => trivial)⟩, ⟨bf I.out⟩, ⟨bf L.out⟩, ⟨by (with_reducible repeat (first | refine blk_drewN ?_ _ | refine blk_drew ?_ | refine blk_alloc ?_ _)); refine blk_put (cs := #[.slice bT br.length bU, .slice aY ad.length aZ]) ?_ 1 _ rfl; (with_reducible repeat (first | refine blk_drewN ?_ _ | refine blk_drew ?_ | refine blk_alloc ?_ _)); refine blk_put (cs := #[.slice bg Y.length bh, .slice aY ad.length aZ]) ?_ 0 _ rfl; exact bf M.out⟩, ⟨bs HB.out⟩⟩
       ·rw [if_neg bo] at H
        have dP : decide (aJ < 0) = false := decide_eq_false bo
        clear bo
        have H' := am H
        clear H
        have fg := ax.out
        have fh := aw.out
        have fi := aq.out
        have fj := ap.out
        have fk := aN.out
        have fl := aP.out
        obtain ⟨fm, fo⟩ := bc2 (w := wc) M.out
        have fp := blk_frozen M.out
        have fq := aE.out
        have fr := aD.out
        have fs := aH.out
        have ft := aG.out
        obtain ⟨fu, fv⟩ := bc2 (w := wc) X.out
        have fw := blk_frozen X.out
        obtain ⟨dS, dT, dU⟩ := Kd.R_slice O.out
        subst dU
        obtain ⟨dV, dW, dX⟩ := Kd.R_slice T.out
        subst dX
        go_wp2_with (first | (go_at_call 62; (with_reducible refine (spec_l2At.calls az _ _ Y _ _ ad ar au aJ _ ?ah ?ai ?aj ?aA bn.out).mono ?_); (case ah => exact cr O); (case ai => exact cc O); (case aj => exact cr T); (case aA => exact cc T); rintro e df ⟨rfl, hb⟩; replace O := rb O hb; replace T := rb T hb; replace I := bb I hb rfl; replace L := bb L hb rfl; replace M := bb M hb rfl; replace X := bb X hb rfl; replace HB := hs HB hb; (try clear hb)))
        repeat (go_quiet (first | (go_at_call 62; (with_reducible refine (spec_l2At.calls az _ _ Y _ _ ad ar au aJ _ ?ah ?ai ?aj ?aA bn.out).mono ?_); (case ah => exact cr O); (case ai => exact cc O); (case aj => exact cr T); (case aA => exact cc T); rintro e df ⟨rfl, hb⟩; replace O := rb O hb; replace T := rb T hb; replace I := bb I hb rfl; replace L := bb L hb rfl; replace M := bb M hb rfl; replace X := bb X hb rfl; replace HB := hs HB hb; (try clear hb))); try go_wp2_with (first | (go_at_call 62; (with_reducible refine (spec_l2At.calls az _ _ Y _ _ ad ar au aJ _ ?ah ?ai ?aj ?aA bn.out).mono ?_); (case ah => exact cr O); (case ai => exact cc O); (case aj => exact cr T); (case aA => exact cc T); rintro e df ⟨rfl, hb⟩; replace O := rb O hb; replace T := rb T hb; replace I := bb I hb rfl; replace L := bb L hb rfl; replace M := bb M hb rfl; replace X := bb X hb rfl; replace HB := hs HB hb; (try clear hb))))
        go_roundg az
        case measure => have := aK.out; have := bS.out; omega
        case rel => exact ⟨(wrap64 (z + 1)), (Y), (ad), (.slice dS Y.length dT), (.slice dV ad.length dW), eqs, H', ⟨by have := aK.out; have := bS.out; omega⟩, ⟨by (with_reducible repeat (first | apply Kd.R_alloc | apply Kd.R_drewN | apply Kd.R_drew)); exact Kd.R_mono O.out (fun _ hk => hk.1)⟩, ⟨rl T.out⟩, ⟨bf I.out⟩, ⟨bf L.out⟩, ⟨bf M.out⟩, ⟨bs HB.out⟩⟩
    ·rw [if_neg bw] at H
     exact absurd H (by simp)
   ·rw [if_neg c9] at H
    have cJ : decide (z < (D.length : Int)) = false := decide_eq_false c9
    clear c9
    obtain ⟨bi, cn⟩ : ∃ y_ : List (S36), y_ = (([] : List (S36))) := ⟨_, rfl⟩
    replace H : (if bi.length + Y.length < 8796093022208 then (some (bi ++ Y)) else (none)) = some r := by first | (rw [cn]; exact H) | exact H
    have bv := am cn
    clear cn
    by_cases bV : bi.length + Y.length < 8796093022208
    ·rw [if_pos bV] at H
     have co := am bV
     clear bV
     obtain ⟨dY, cp⟩ : ∃ y_ : List (S36), y_ = (bi ++ Y) := ⟨_, rfl⟩
     replace H : (some dY) = some r := by first | (rw [cp]; exact H) | exact H
     have ct := am cp
     clear cp
     obtain rfl := Option.some.inj H
     have fx := ba.out
     have fy := bc.out
     have fz := aw.out
     have fA := ax.out
     obtain ⟨fB, fC⟩ := bc2 (w := wr) I.out
     have fD := blk_frozen I.out
     go_wp2_with (first | ((with_reducible refine gd 46 rfl ?_); refine Kd.R_lit k36 _ 36 ?hg (N := 46) ?hd (xs := ([] : List (S36))) (inner := []) (ok := fun _ => True) (okp := fun _ => True) ?hr ?hp (fun _ hk => hk) trivial (Below.refl _ _) (Nat.le_refl _) (by simp) ?_; (case hd => rfl); (case hg => rfl); (case hr => first | (go_simp; done) | (go_simp; rfl)); (case hp => exact (Reps.none _ _)); intro bD bE af hb hg_ hnew_; clear hg_ hnew_; (first | rw [← bv.out] at af | (simp only [Int.reduceToNat] at af; rw [← bv.out] at af)); replace T := rb T hb; have ag := am (Kd.R_lower (Kd.R_newB (Kd.R_new' af (rk O)) (g := ac) (o := .cells #[.int .i64 Z, .int .i64 aa] 36 (0, 0)) (bf L.out)) (below_size (bs HB.out))); replace O := re O af hb; replace I := bb I hb rfl; replace L := bb L hb rfl; replace M := bb M hb rfl; replace HB := hs HB hb; clear hb af; have dg := aq.out; have dh := ap.out; obtain ⟨di, dj⟩ := bc2 (w := bE) M.out; have dk := blk_frozen M.out; obtain ⟨bF, bG, bH⟩ := Kd.R_slice O.out; subst bH) | ((with_reducible refine gate_builtin (b := .append) (xs := #[.tmp 46, .tmp 48]) rfl ?_); at_builtin; refine Kd.R_append_rows k36 (w0 := w) w.heap.size rfl (.tmp 46) (.tmp 48) 29 36 (.agg #[(.int .i64 0), (.int .i64 0)]) 16 rfl Try.underlying29 info36 rfl (by decide) (by omega) bD bi Y _ _ _ (fun k_ => some k_ ≠ (.slice bF Y.length bG : Value).ownBlock ∧ k_ ≠ ac) (fun _ => False) rfl rfl ?aO ?aR (fun _ _ h => h) (fun _ h => h.elim) ?aF ?aB ?aS ?aL ?_; (case aR => exact cr O); (case aB => exact (bs HB.out)); (case aF => exact (fun k_ hk => ⟨Kd.fresh' (rk O) k_ hk, Kd.freshB (g := ac) (o := .cells #[.int .i64 Z, .int .i64 aa] 36 (0, 0)) (bf L.out) k_ hk⟩)); (case aO => exact (by (with_reducible repeat (first | apply Kd.R_alloc | apply Kd.R_drewN | apply Kd.R_drew)); exact Kd.R_mono ag.out (fun _ hk => ⟨hk.1.2, hk.2⟩))); (case aS => exact (below_size (bs HB.out))); (case aL => have := co.out; omega); intro dl dm ho hb hg hat; rw [← ct.out] at ho; replace O := am (Kd.R_after (ok := (fun k_ => k_ ≠ ac)) (rl O.out) hg hat); replace T := am (Kd.R_over' (rl T.out) (Kd.R_typed (rl ag.out)) (by decide) hg); replace I := gr I ag hg; replace L := am (blk_grown (g := ac) (o := .cells #[.int .i64 Z, .int .i64 aa] 36 (0, 0)) (bf L.out) hg (Kd.R_away ag.out (fun _ hk => hk.2))); replace M := gr M ag hg; replace HB := am hb; have cu := am ho; clear ag; clear ho hb hg hat))
     repeat (go_quiet (first | ((with_reducible refine gd 46 rfl ?_); refine Kd.R_lit k36 _ 36 ?hg (N := 46) ?hd (xs := ([] : List (S36))) (inner := []) (ok := fun _ => True) (okp := fun _ => True) ?hr ?hp (fun _ hk => hk) trivial (Below.refl _ _) (Nat.le_refl _) (by simp) ?_; (case hd => rfl); (case hg => rfl); (case hr => first | (go_simp; done) | (go_simp; rfl)); (case hp => exact (Reps.none _ _)); intro bD bE af hb hg_ hnew_; clear hg_ hnew_; (first | rw [← bv.out] at af | (simp only [Int.reduceToNat] at af; rw [← bv.out] at af)); replace T := rb T hb; have ag := am (Kd.R_lower (Kd.R_newB (Kd.R_new' af (rk O)) (g := ac) (o := .cells #[.int .i64 Z, .int .i64 aa] 36 (0, 0)) (bf L.out)) (below_size (bs HB.out))); replace O := re O af hb; replace I := bb I hb rfl; replace L := bb L hb rfl; replace M := bb M hb rfl; replace HB := hs HB hb; clear hb af; have dg := aq.out; have dh := ap.out; obtain ⟨di, dj⟩ := bc2 (w := bE) M.out; have dk := blk_frozen M.out; obtain ⟨bF, bG, bH⟩ := Kd.R_slice O.out; subst bH) | ((with_reducible refine gate_builtin (b := .append) (xs := #[.tmp 46, .tmp 48]) rfl ?_); at_builtin; refine Kd.R_append_rows k36 (w0 := w) w.heap.size rfl (.tmp 46) (.tmp 48) 29 36 (.agg #[(.int .i64 0), (.int .i64 0)]) 16 rfl Try.underlying29 info36 rfl (by decide) (by omega) bD bi Y _ _ _ (fun k_ => some k_ ≠ (.slice bF Y.length bG : Value).ownBlock ∧ k_ ≠ ac) (fun _ => False) rfl rfl ?aO ?aR (fun _ _ h => h) (fun _ h => h.elim) ?aF ?aB ?aS ?aL ?_; (case aR => exact cr O); (case aB => exact (bs HB.out)); (case aF => exact (fun k_ hk => ⟨Kd.fresh' (rk O) k_ hk, Kd.freshB (g := ac) (o := .cells #[.int .i64 Z, .int .i64 aa] 36 (0, 0)) (bf L.out) k_ hk⟩)); (case aO => exact (by (with_reducible repeat (first | apply Kd.R_alloc | apply Kd.R_drewN | apply Kd.R_drew)); exact Kd.R_mono ag.out (fun _ hk => ⟨hk.1.2, hk.2⟩))); (case aS => exact (below_size (bs HB.out))); (case aL => have := co.out; omega); intro dl dm ho hb hg hat; rw [← ct.out] at ho; replace O := am (Kd.R_after (ok := (fun k_ => k_ ≠ ac)) (rl O.out) hg hat); replace T := am (Kd.R_over' (rl T.out) (Kd.R_typed (rl ag.out)) (by decide) hg); replace I := gr I ag hg; replace L := am (blk_grown (g := ac) (o := .cells #[.int .i64 Z, .int .i64 aa] 36 (0, 0)) (bf L.out) hg (Kd.R_away ag.out (fun _ hk => hk.2))); replace M := gr M ag hg; replace HB := am hb; have cu := am ho; clear ag; clear ho hb hg hat)); try go_wp2_with (first | ((with_reducible refine gd 46 rfl ?_); refine Kd.R_lit k36 _ 36 ?hg (N := 46) ?hd (xs := ([] : List (S36))) (inner := []) (ok := fun _ => True) (okp := fun _ => True) ?hr ?hp (fun _ hk => hk) trivial (Below.refl _ _) (Nat.le_refl _) (by simp) ?_; (case hd => rfl); (case hg => rfl); (case hr => first | (go_simp; done) | (go_simp; rfl)); (case hp => exact (Reps.none _ _)); intro bD bE af hb hg_ hnew_; clear hg_ hnew_; (first | rw [← bv.out] at af | (simp only [Int.reduceToNat] at af; rw [← bv.out] at af)); replace T := rb T hb; have ag := am (Kd.R_lower (Kd.R_newB (Kd.R_new' af (rk O)) (g := ac) (o := .cells #[.int .i64 Z, .int .i64 aa] 36 (0, 0)) (bf L.out)) (below_size (bs HB.out))); replace O := re O af hb; replace I := bb I hb rfl; replace L := bb L hb rfl; replace M := bb M hb rfl; replace HB := hs HB hb; clear hb af; have dg := aq.out; have dh := ap.out; obtain ⟨di, dj⟩ := bc2 (w := bE) M.out; have dk := blk_frozen M.out; obtain ⟨bF, bG, bH⟩ := Kd.R_slice O.out; subst bH) | ((with_reducible refine gate_builtin (b := .append) (xs := #[.tmp 46, .tmp 48]) rfl ?_); at_builtin; refine Kd.R_append_rows k36 (w0 := w) w.heap.size rfl (.tmp 46) (.tmp 48) 29 36 (.agg #[(.int .i64 0), (.int .i64 0)]) 16 rfl Try.underlying29 info36 rfl (by decide) (by omega) bD bi Y _ _ _ (fun k_ => some k_ ≠ (.slice bF Y.length bG : Value).ownBlock ∧ k_ ≠ ac) (fun _ => False) rfl rfl ?aO ?aR (fun _ _ h => h) (fun _ h => h.elim) ?aF ?aB ?aS ?aL ?_; (case aR => exact cr O); (case aB => exact (bs HB.out)); (case aF => exact (fun k_ hk => ⟨Kd.fresh' (rk O) k_ hk, Kd.freshB (g := ac) (o := .cells #[.int .i64 Z, .int .i64 aa] 36 (0, 0)) (bf L.out) k_ hk⟩)); (case aO => exact (by (with_reducible repeat (first | apply Kd.R_alloc | apply Kd.R_drewN | apply Kd.R_drew)); exact Kd.R_mono ag.out (fun _ hk => ⟨hk.1.2, hk.2⟩))); (case aS => exact (below_size (bs HB.out))); (case aL => have := co.out; omega); intro dl dm ho hb hg hat; rw [← ct.out] at ho; replace O := am (Kd.R_after (ok := (fun k_ => k_ ≠ ac)) (rl O.out) hg hat); replace T := am (Kd.R_over' (rl T.out) (Kd.R_typed (rl ag.out)) (by decide) hg); replace I := gr I ag hg; replace L := am (blk_grown (g := ac) (o := .cells #[.int .i64 Z, .int .i64 aa] 36 (0, 0)) (bf L.out) hg (Kd.R_away ag.out (fun _ hk => hk.2))); replace M := gr M ag hg; replace HB := am hb; have cu := am ho; clear ag; clear ho hb hg hat)))
     go_ret
     exact ⟨_, eqr, by (with_reducible repeat (first | apply Kd.R_alloc | apply Kd.R_drewN | apply Kd.R_drew)); exact Kd.R_mono cu.out (fun _ hk => trivial), bs HB.out⟩
    ·rw [if_neg bV] at H
     exact absurd H (by simp)

/-! ### spec_GraphNear: function 54 -/
def spec_GraphNear.f (k : Nat) (s : List (S36)) (z : List (S56)) (D : Int) (I : Int) : Option ((List (S36))) := (spec_GraphOk.f k s z).bind fun J => (if J = true then ((spec_l2Near.f k s z D I).bind fun L => (some L)) else (some (([] : List (S36)))))
theorem spec_GraphNear.calls (k : Nat) (O : Option Addr) (T : Nat) (z : List (S36)) (X : Option Addr) (Y : Nat) (D : List (S56)) (L : Int) (M : Int) (r : List (S36)) (w : World) (ao : Kd.C k36 w O z.length z) (ap : z.length ≤ T) (aq : Kd.C k56 w X D.length D) (ar : D.length ≤ Y) (h : spec_GraphNear.f k z D L M = some r) :
  Calls Try.prog 54 #[.agg #[.slice O z.length T, .slice X D.length Y], .agg #[.int .i64 L, .int .i64 M]] w fun e w' => ∃ au : Value, e = .returned (au) ∧ Kd.R k36 36 w' w.heap.size (fun _ => True) au r ∧ Below w.heap.size w w' := by
 have hu34 := Try.underlying34
 have hu36 := Try.underlying36
 have ae := am ao
 have af := am ap
 clear ao ap
 have ag := am aq
 have ah := am ar
 clear aq ar
 have HB := am (Below.refl w.heap.size w)
 have H := h; unfold spec_GraphNear.f at H
 clear h
 replace H := Option.bind_eq_some_iff.mp H
 obtain ⟨aA, av, H⟩ := H
 try dsimp -simprocs only at H
 have A3 := am av
 clear av
 by_cases c4 : aA = true
 ·subst c4
  replace H : ((spec_l2Near.f k z D L M).bind fun ai => (some ai)) = some r := by rw [if_pos rfl] at H; exact H
  replace H := Option.bind_eq_some_iff.mp H
  obtain ⟨ai, aw, H⟩ := H
  try dsimp -simprocs only at H
  have A5 := am aw
  clear aw
  obtain rfl := Option.some.inj H
  go_enter Try.func54, Try.ntmps54
  go_wp2_with (first | ((with_reducible refine gd 2 rfl ?_); refine bx 2 (cs := #[.slice O z.length T, .slice X D.length Y]) (t := 34) ?_; intro aC hg w6 hbox hb; have s := am hbox; have aD := gwb HB hg; replace HB := hs HB hb; clear hb hbox hg) | ((with_reducible refine gd 3 rfl ?_); refine bx 3 (cs := #[.int .i64 L, .int .i64 M]) (t := 36) ?_; intro aj hg w7 hbox hb; have I := am hbox; have aE := gwb HB hg; replace HB := hs HB hb; have ak := nq s hg; have al := nq' s hg; replace s := bb s hb rfl; clear hb hbox hg; have aK := ak.out; have aM := al.out; obtain ⟨aN, aP⟩ := bc2 (w := w7) s.out; have aQ := blk_frozen s.out) | ((with_reducible refine gc 33 rfl ?_); refine gl 6 Try.func33 #[.agg #[.slice O z.length T, .slice X D.length Y]] ?_; (with_reducible refine (spec_GraphOk.calls k _ _ z _ _ D true _ ?Z ?aa ?ab ?ac A3.out).mono ?_); (case Z => exact Kd.C_below ae.out (bs HB.out)); (case aa => exact af.out); (case ab => exact Kd.C_below ag.out (bs HB.out)); (case ac => exact ah.out); rintro e ax ⟨rfl, hb⟩; refine ⟨_, rfl, ?_⟩; replace s := bb s hb rfl; replace I := bb I hb rfl; replace HB := hs HB hb; (try clear hb); obtain ⟨aT, aU⟩ := bc2 (w := ax) s.out; have aV := blk_frozen s.out; obtain ⟨aW, aX⟩ := bc2 (w := ax) I.out; have aY := blk_frozen I.out) | ((with_reducible refine gc 64 rfl ?_); refine gl 11 Try.func64 #[.agg #[.slice O z.length T, .slice X D.length Y], .agg #[.int .i64 L, .int .i64 M]] ?_; (with_reducible refine (spec_l2Near.calls k _ _ z _ _ D L M ai _ ?Z ?aa ?ab ?ac A5.out).mono ?_); (case Z => exact Kd.C_below ae.out (bs HB.out)); (case aa => exact af.out); (case ab => exact Kd.C_below ag.out (bs HB.out)); (case ac => exact ah.out); rintro e aZ ⟨a4, rfl, ay, hb⟩; refine ⟨_, rfl, ?_⟩; have aG := am (Kd.R_lower (Kd.R_newB ay (g := aj) (o := .cells #[.int .i64 L, .int .i64 M] 36 (0, 0)) (bf I.out)) (below_size (bs HB.out))); replace s := bb s hb rfl; replace I := bb I hb rfl; replace HB := hs HB hb; (try clear ay hb)))
  go_ret
  exact ⟨_, eqr, by (with_reducible repeat (first | apply Kd.R_alloc | apply Kd.R_drewN | apply Kd.R_drew)); exact Kd.R_mono aG.out (fun _ hk => trivial), bs HB.out⟩
 ·replace c4 := Bool.eq_false_iff.mpr c4
  subst c4
  have H1 : (some (([] : List (S36)))) = some r := by rw [if_neg (show ¬ (false = true) by decide)] at H; exact H
  clear H
  have H := H1
  clear H1
  obtain ⟨aH, an⟩ : ∃ y_ : List (S36), y_ = (([] : List (S36))) := ⟨_, rfl⟩
  replace H : (some aH) = some r := by first | (rw [an]; exact H) | exact H
  have az := am an
  clear an
  obtain rfl := Option.some.inj H
  go_enter Try.func54, Try.ntmps54
  go_wp2_with (first | ((with_reducible refine gd 2 rfl ?_); refine bx 2 (cs := #[.slice O z.length T, .slice X D.length Y]) (t := 34) ?_; intro aC hg a5 hbox hb; have s := am hbox; have aD := gwb HB hg; replace HB := hs HB hb; clear hb hbox hg) | ((with_reducible refine gd 3 rfl ?_); refine bx 3 (cs := #[.int .i64 L, .int .i64 M]) (t := 36) ?_; intro aj hg aI hbox hb; have I := am hbox; have aE := gwb HB hg; replace HB := hs HB hb; have ak := nq s hg; have al := nq' s hg; replace s := bb s hb rfl; clear hb hbox hg; have a6 := ak.out; have a7 := al.out; obtain ⟨a8, a9⟩ := bc2 (w := aI) s.out; have ba := blk_frozen s.out) | ((with_reducible refine gc 33 rfl ?_); refine gl 6 Try.func33 #[.agg #[.slice O z.length T, .slice X D.length Y]] ?_; (with_reducible refine (spec_GraphOk.calls k _ _ z _ _ D false _ ?Z ?aa ?ab ?ac A3.out).mono ?_); (case Z => exact Kd.C_below ae.out (bs HB.out)); (case aa => exact af.out); (case ab => exact Kd.C_below ag.out (bs HB.out)); (case ac => exact ah.out); rintro e bc ⟨rfl, hb⟩; refine ⟨_, rfl, ?_⟩; replace s := bb s hb rfl; replace I := bb I hb rfl; replace HB := hs HB hb; (try clear hb)) | ((with_reducible refine gd 8 rfl ?_); refine Kd.R_lit k36 _ 36 ?hg (N := 8) ?hd (xs := ([] : List (S36))) (inner := []) (ok := fun _ => True) (okp := fun _ => True) ?hr ?hp (fun _ hk => hk) trivial (Below.refl _ _) (Nat.le_refl _) (by simp) ?_; (case hd => rfl); (case hg => rfl); (case hr => first | (go_simp; done) | (go_simp; rfl)); (case hp => exact (Reps.none _ _)); intro be bg ad hb hg_ hnew_; clear hg_ hnew_; (first | rw [← az.out] at ad | (simp only [Int.reduceToNat] at ad; rw [← az.out] at ad)); have aJ := am (Kd.R_lower (Kd.R_newB ad (g := aj) (o := .cells #[.int .i64 L, .int .i64 M] 36 (0, 0)) (bf I.out)) (below_size (bs HB.out))); replace s := bb s hb rfl; replace I := bb I hb rfl; replace HB := hs HB hb; clear hb ad))
  go_ret
  exact ⟨_, eqr, by (with_reducible repeat (first | apply Kd.R_alloc | apply Kd.R_drewN | apply Kd.R_drew)); exact Kd.R_mono aJ.out (fun _ hk => trivial), bs HB.out⟩

/-! ### impl_LabelOk: function 46 -/
def impl_LabelOk.f (s : Int) : Option (Bool) := if 0 ≤ s then (some (decide (s ≤ 7))) else (some false)
theorem impl_LabelOk.calls (s : Int) (r : Bool) (w : World) (h : impl_LabelOk.f s = some r) :
  Calls Try.prog 46 #[.int .i64 s] w fun e w' => e = .returned (.bool r) ∧ Drawn0 w w' := by
 have H := h; unfold impl_LabelOk.f at H
 clear h
 by_cases c2 : 0 ≤ s
 ·rw [if_pos c2] at H
  have z : decide (0 ≤ s) = true := decide_eq_true c2
  clear c2
  obtain rfl := Option.some.inj H
  go_enter Try.func46, Try.ntmps46
  go_wp2
  go_ret
  exact ⟨eqs, drs⟩
 ·rw [if_neg c2] at H
  have z : decide (0 ≤ s) = false := decide_eq_false c2
  clear c2
  obtain rfl := Option.some.inj H
  go_enter Try.func46, Try.ntmps46
  go_wp2
  go_ret
  exact ⟨eqs, drs⟩

/-! ### impl_letters_under: function 95 -/
def impl_letters_under.f (s : Int) (z : Int) : Option (Bool) := some ((Go.bits .andNot .u8 s z) == 0)
theorem impl_letters_under.calls (s : Int) (z : Int) (r : Bool) (w : World) (h : impl_letters_under.f s z = some r) :
  Calls Try.prog 95 #[.int .u8 s, .int .u8 z] w fun e w' => e = .returned (.bool r) ∧ Drawn0 w w' := by
 have H := h; unfold impl_letters_under.f at H
 clear h
 obtain rfl := Option.some.inj H
 go_enter Try.func95, Try.ntmps95
 go_wp2
 go_ret
 exact ⟨eqs, drs⟩

/-! ### impl_LabelUnder: function 47 -/
def impl_LabelUnder.f (s : Int) (z : Int) : Option (Bool) := (impl_LabelOk.f s).bind fun D => (if D = true then ((impl_LabelOk.f z).bind fun I => (if I = true then ((impl_letters_under.f ((s) % 256) ((z) % 256)).bind fun J => (some J)) else (some false))) else (some false))
theorem impl_LabelUnder.calls (s : Int) (z : Int) (r : Bool) (w : World) (h : impl_LabelUnder.f s z = some r) :
  Calls Try.prog 47 #[.int .i64 s, .int .i64 z] w fun e w' => e = .returned (.bool r) ∧ Drawn0 w w' := by
 have H := h; unfold impl_LabelUnder.f at H
 clear h
 replace H := Option.bind_eq_some_iff.mp H
 obtain ⟨aa, T, H⟩ := H
 try dsimp -simprocs only at H
 have M := am T
 clear T
 by_cases J : aa = true
 ·subst J
  replace H : ((impl_LabelOk.f z).bind fun O => (if O = true then ((impl_letters_under.f ((s) % 256) ((z) % 256)).bind fun D => (some D)) else (some false))) = some r := by rw [if_pos rfl] at H; exact H
  replace H := Option.bind_eq_some_iff.mp H
  obtain ⟨O, X, H⟩ := H
  try dsimp -simprocs only at H
  have Y := am X
  clear X
  by_cases L : O = true
  ·subst L
   replace H : ((impl_letters_under.f ((s) % 256) ((z) % 256)).bind fun D => (some D)) = some r := by rw [if_pos rfl] at H; exact H
   replace H := Option.bind_eq_some_iff.mp H
   obtain ⟨D, Z, H⟩ := H
   try dsimp -simprocs only at H
   have A7 := am Z
   clear Z
   obtain rfl := Option.some.inj H
   go_enter Try.func47, Try.ntmps47
   go_wp2_with (first | ((with_reducible refine gc 46 rfl ?_); refine gl 6 Try.func46 #[.int .i64 s] ?_; (with_reducible refine (impl_LabelOk.calls s true _ M.out).mono ?_); rintro e w' ⟨rfl, ⟨nd, rfl⟩⟩; refine ⟨_, rfl, ?_⟩) | (go_at_call 46; (with_reducible refine (impl_LabelOk.calls z true _ Y.out).mono ?_); rintro e w' ⟨rfl, ⟨nd, rfl⟩⟩) | (go_at_call 95; (with_reducible refine (impl_letters_under.calls ((s) % 256) ((z) % 256) D _ A7.out).mono ?_); rintro e w' ⟨rfl, ⟨nd, rfl⟩⟩))
   go_ret
   exact ⟨eqs, drs⟩
  ·replace L := Bool.eq_false_iff.mpr L
   subst L
   have H1 : (some false) = some r := by rw [if_neg (show ¬ (false = true) by decide)] at H; exact H
   clear H
   have H := H1
   clear H1
   obtain rfl := Option.some.inj H
   go_enter Try.func47, Try.ntmps47
   go_wp2_with (first | ((with_reducible refine gc 46 rfl ?_); refine gl 6 Try.func46 #[.int .i64 s] ?_; (with_reducible refine (impl_LabelOk.calls s true _ M.out).mono ?_); rintro e w' ⟨rfl, ⟨nd, rfl⟩⟩; refine ⟨_, rfl, ?_⟩) | (go_at_call 46; (with_reducible refine (impl_LabelOk.calls z false _ Y.out).mono ?_); rintro e w' ⟨rfl, ⟨nd, rfl⟩⟩))
   go_ret
   exact ⟨eqs, drs⟩
 ·replace J := Bool.eq_false_iff.mpr J
  subst J
  have H1 : (some false) = some r := by rw [if_neg (show ¬ (false = true) by decide)] at H; exact H
  clear H
  have H := H1
  clear H1
  obtain rfl := Option.some.inj H
  go_enter Try.func47, Try.ntmps47
  go_wp2_with (first | ((with_reducible refine gc 46 rfl ?_); refine gl 6 Try.func46 #[.int .i64 s] ?_; (with_reducible refine (impl_LabelOk.calls s false _ M.out).mono ?_); rintro e w' ⟨rfl, ⟨nd, rfl⟩⟩; refine ⟨_, rfl, ?_⟩))
  go_ret
  exact ⟨eqs, drs⟩

/-! ### impl_NodeOk: function 92 -/
def impl_NodeOk.f (z : Int) (s : Int) : Option (Bool) := (impl_LabelOk.f z).bind fun D => (if D = true then (if 0 ≤ s then (some (decide (s ≤ 40))) else (some false)) else (some false))
theorem impl_NodeOk.calls (s : Int) (z : Int) (r : Bool) (w : World) (h : impl_NodeOk.f s z = some r) :
  Calls Try.prog 92 #[.agg #[.int .i64 s, .int .i64 z]] w fun e w' => e = .returned (.bool r) ∧ Below w.heap.size w w' := by
 have hu36 := Try.underlying36
 have HB := am (Below.refl w.heap.size w)
 have H := h; unfold impl_NodeOk.f at H
 clear h
 replace H := Option.bind_eq_some_iff.mp H
 obtain ⟨Y, O, H⟩ := H
 try dsimp -simprocs only at H
 have M := am O
 clear O
 by_cases L : Y = true
 ·subst L
  replace H : (if 0 ≤ z then (some (decide (z ≤ 40))) else (some false)) = some r := by rw [if_pos rfl] at H; exact H
  by_cases J : 0 ≤ z
  ·rw [if_pos J] at H
   have Z : decide (0 ≤ z) = true := decide_eq_true J
   clear J
   obtain rfl := Option.some.inj H
   go_enter Try.func92, Try.ntmps92
   go_wp2_with (first | ((with_reducible refine gd 1 rfl ?_); refine bx 1 (cs := #[.int .i64 s, .int .i64 z]) (t := 36) ?_; intro T hg w5 hbox hb; have I := am hbox; have X := gwb HB hg; replace HB := hs HB hb; clear hb hbox hg; obtain ⟨aa, ab⟩ := bc2 (w := w5) I.out; have ac := blk_frozen I.out) | ((with_reducible refine gc 46 rfl ?_); refine gl 5 Try.func46 #[.int .i64 s] ?_; (with_reducible refine (impl_LabelOk.calls s true _ M.out).mono ?_); rintro e w' ⟨rfl, ⟨nd, rfl⟩⟩; refine ⟨_, rfl, ?_⟩))
   go_ret
   exact ⟨eqr, bs HB.out⟩
  ·rw [if_neg J] at H
   have Z : decide (0 ≤ z) = false := decide_eq_false J
   clear J
   obtain rfl := Option.some.inj H
   go_enter Try.func92, Try.ntmps92
   go_wp2_with (first | ((with_reducible refine gd 1 rfl ?_); refine bx 1 (cs := #[.int .i64 s, .int .i64 z]) (t := 36) ?_; intro T hg w7 hbox hb; have I := am hbox; have X := gwb HB hg; replace HB := hs HB hb; clear hb hbox hg; obtain ⟨ad, ae⟩ := bc2 (w := w7) I.out; have af := blk_frozen I.out) | ((with_reducible refine gc 46 rfl ?_); refine gl 5 Try.func46 #[.int .i64 s] ?_; (with_reducible refine (impl_LabelOk.calls s true _ M.out).mono ?_); rintro e w' ⟨rfl, ⟨nd, rfl⟩⟩; refine ⟨_, rfl, ?_⟩))
   go_ret
   exact ⟨eqr, bs HB.out⟩
 ·replace L := Bool.eq_false_iff.mpr L
  subst L
  have H1 : (some false) = some r := by rw [if_neg (show ¬ (false = true) by decide)] at H; exact H
  clear H
  have H := H1
  clear H1
  obtain rfl := Option.some.inj H
  go_enter Try.func92, Try.ntmps92
  go_wp2_with (first | ((with_reducible refine gd 1 rfl ?_); refine bx 1 (cs := #[.int .i64 s, .int .i64 z]) (t := 36) ?_; intro T hg w9 hbox hb; have I := am hbox; have X := gwb HB hg; replace HB := hs HB hb; clear hb hbox hg; obtain ⟨ag, ah⟩ := bc2 (w := w9) I.out; have ai := blk_frozen I.out) | ((with_reducible refine gc 46 rfl ?_); refine gl 5 Try.func46 #[.int .i64 s] ?_; (with_reducible refine (impl_LabelOk.calls s false _ M.out).mono ?_); rintro e w' ⟨rfl, ⟨nd, rfl⟩⟩; refine ⟨_, rfl, ?_⟩))
  go_ret
  exact ⟨eqr, bs HB.out⟩

/-! ### impl_NodeCode: function 116 -/
def impl_NodeCode.f (s : Int) (z : Int) : Option (Int) := (impl_NodeOk.f s z).bind fun D => (if D = true then (some (wrap64 ((wrap64 (64 * s)) + z))) else (some (-1)))
theorem impl_NodeCode.calls (D : Int) (I : Int) (r : Int) (w : World) (h : impl_NodeCode.f D I = some r) :
  Calls Try.prog 116 #[.agg #[.int .i64 D, .int .i64 I]] w fun e w' => e = .returned (.int .i64 r) ∧ Below w.heap.size w w' := by
 have hu36 := Try.underlying36
 have HB := am (Below.refl w.heap.size w)
 have H := h; unfold impl_NodeCode.f at H
 clear h
 replace H := Option.bind_eq_some_iff.mp H
 obtain ⟨O, L, H⟩ := H
 try dsimp -simprocs only at H
 have M := am L
 clear L
 by_cases J : O = true
 ·subst J
  replace H : (some (wrap64 ((wrap64 (64 * D)) + I))) = some r := by rw [if_pos rfl] at H; exact H
  obtain rfl := Option.some.inj H
  go_enter Try.func116, Try.ntmps116
  go_wp2_with (first | ((with_reducible refine gd 1 rfl ?_); refine bx 1 (cs := #[.int .i64 D, .int .i64 I]) (t := 36) ?_; intro T hg X hbox hb; have s := am hbox; have Y := gwb HB hg; replace HB := hs HB hb; clear hb hbox hg; obtain ⟨aa, ab⟩ := bc2 (w := X) s.out; have ac := blk_frozen s.out) | ((with_reducible refine gc 92 rfl ?_); refine gl 4 Try.func92 #[.agg #[.int .i64 D, .int .i64 I]] ?_; (with_reducible refine (impl_NodeOk.calls D I true _ M.out).mono ?_); rintro e Z ⟨rfl, hb⟩; refine ⟨_, rfl, ?_⟩; replace s := bb s hb rfl; replace HB := hs HB hb; (try clear hb); obtain ⟨ad, ae⟩ := bc2 (w := Z) s.out; have af := blk_frozen s.out))
  go_ret
  exact ⟨eqr, bs HB.out⟩
 ·replace J := Bool.eq_false_iff.mpr J
  subst J
  have H1 : (some (-1)) = some r := by rw [if_neg (show ¬ (false = true) by decide)] at H; exact H
  clear H
  have H := H1
  clear H1
  obtain rfl := Option.some.inj H
  go_enter Try.func116, Try.ntmps116
  go_wp2_with (first | ((with_reducible refine gd 1 rfl ?_); refine bx 1 (cs := #[.int .i64 D, .int .i64 I]) (t := 36) ?_; intro T hg w8 hbox hb; have s := am hbox; have Y := gwb HB hg; replace HB := hs HB hb; clear hb hbox hg; obtain ⟨ag, ah⟩ := bc2 (w := w8) s.out; have ai := blk_frozen s.out) | ((with_reducible refine gc 92 rfl ?_); refine gl 4 Try.func92 #[.agg #[.int .i64 D, .int .i64 I]] ?_; (with_reducible refine (impl_NodeOk.calls D I false _ M.out).mono ?_); rintro e aj ⟨rfl, hb⟩; refine ⟨_, rfl, ?_⟩; replace s := bb s hb rfl; replace HB := hs HB hb; (try clear hb)))
  go_ret
  exact ⟨eqr, bs HB.out⟩

/-! ### impl_EdgeOk: function 93 -/
theorem iIs (a : Int) : impl_LabelOk.f a = some (isL a) := by
  unfold impl_LabelOk.f isL
  by_cases h : 0 ≤ a
  · rw [if_pos h]; simp [h]
  · rw [if_neg h]; simp [h]
theorem iU8 : ∀ a b : Fin 8, impl_LabelUnder.f (a.val : Int) (b.val : Int) = some (U a.val b.val) := by decide +kernel
theorem iU (a b : Int) : impl_LabelUnder.f a b = some (U a b) := by
  by_cases ha : isL a = true
  · by_cases hb : isL b = true
    · obtain ⟨x, rfl⟩ := fin8 ha
      obtain ⟨y, rfl⟩ := fin8 hb
      exact iU8 x y
    · simp [impl_LabelUnder.f, iIs, U, ha, hb]
  · simp [impl_LabelUnder.f, iIs, U, ha]
theorem iN (a b : Int) : impl_NodeOk.f a b = some (nOk a b) := by
  unfold impl_NodeOk.f
  rw [iIs]
  cases h : isL a
  · simp [nOk, h]
  · by_cases hb : 0 ≤ b
    · simp [nOk, h, hb]
    · simp [nOk, h, hb]
theorem iC (a b : Int) : impl_NodeCode.f a b = some (Cd a b) := by
  unfold impl_NodeCode.f Cd
  rw [iN]
  cases h : nOk a b
  · simp
  · have h' := nOk_iff.1 h
    simp only [Option.bind_some, if_true, w64 (x := 64 * a) (by omega), w64 (x := 64 * a + b) (by omega)]
def impl_EdgeOk.f (s : Int) (z : Int) (D : Int) (I : Int) (J : Int) : Option (Bool) := some (EOk s z D I J)
set_option maxHeartbeats 8000000 in
set_option maxRecDepth 100000 in
theorem impl_EdgeOk.calls (I : Int) (s : Int) (J : Int) (z : Int) (L : Int) (r : Bool) (w : World) (h : impl_EdgeOk.f I s J z L = some r) :
    Calls Try.prog 93 #[.agg #[.int .i64 I, .int .i64 s, .int .i64 J, .int .i64 z, .int .i64 L]] w fun e w' => e = .returned (.bool r) ∧ Below w.heap.size w w' := by
  have hu56 := Try.underlying56
  have hu36 := Try.underlying36
  have HB := am (Below.refl w.heap.size w)
  obtain rfl := Option.some.inj h
  clear h
  have F : ∀ (b1 b2 b3 b4 b5 b6 : Bool), isL I = b1 → nOk s J = b2 → nOk z L = b3 → decide (Cd s J < Cd z L) = b4 → U s I = b5 → U z I = b6 →
      Calls Try.prog 93 #[.agg #[.int .i64 I, .int .i64 s, .int .i64 J, .int .i64 z, .int .i64 L]] w fun e w' => e = .returned (.bool (b1 && (b2 && (b3 && (b4 && (b5 && b6)))))) ∧ Below w.heap.size w w' := by
    intro b1 b2 b3 b4 b5 b6 h1 h2 h3 h4 h5 h6
    have T := am ((iIs I).trans (congrArg some h1))
    have X := am ((iN s J).trans (congrArg some h2))
    have Y := am ((iN z L).trans (congrArg some h3))
    have Z := am ((iU s I).trans (congrArg some h5))
    have A6 := am ((iU z I).trans (congrArg some h6))
    clear h1 h2 h3 h5 h6
    go_enter Try.func93, Try.ntmps93
    go_wp2_with (first | ((with_reducible refine gate_dst (N := 1) rfl ?_); refine box_event ?hg (N := 1) ?hd (cs := #[.int .i64 I, .int .i64 s, .int .i64 J, .int .i64 z, .int .i64 L]) (t := 56) ?hr ?_; (case hd => rfl); (case hg => rfl); (case hr => first | (go_simp; done) | (go_simp; rfl)); intro gb hg M hbox hb; have O := am (below_step HB.out hb); clear HB; have HB := O; clear O hg hb))
    have aa : ∀ p : Bel M, p.v.cell? ⟨gb, 0, none⟩ = some (.int .i64 I) := fun p => cell_bel ((blk_cell hbox 0).trans rfl) p
    have ab : ∀ p : Bel M, p.v.cell? ⟨gb, 1, none⟩ = some (.int .i64 s) := fun p => cell_bel ((blk_cell hbox 1).trans rfl) p
    have ac : ∀ p : Bel M, p.v.cell? ⟨gb, 2, none⟩ = some (.int .i64 J) := fun p => cell_bel ((blk_cell hbox 2).trans rfl) p
    have ad : ∀ p : Bel M, p.v.cell? ⟨gb, 3, none⟩ = some (.int .i64 z) := fun p => cell_bel ((blk_cell hbox 3).trans rfl) p
    have ae : ∀ p : Bel M, p.v.cell? ⟨gb, 4, none⟩ = some (.int .i64 L) := fun p => cell_bel ((blk_cell hbox 4).trans rfl) p
    clear hbox
    refine wp_region_bel0 (by kernel_rfl) (by kernel_rfl) ?_
    rcases path6 b1 b2 b3 b4 b5 b6 with rfl | ⟨rfl, rfl⟩ | ⟨rfl, rfl, rfl⟩ | ⟨rfl, rfl, rfl, rfl⟩ | ⟨rfl, rfl, rfl, rfl, rfl⟩ | ⟨rfl, rfl, rfl, rfl, rfl, rfl⟩ | ⟨rfl, rfl, rfl, rfl, rfl, rfl⟩ <;>
    (repeat (go_big_quiet_step (first
        | with_reducible exact calls_bel0 (impl_LabelOk.calls _ _ _ T.out)
        | with_reducible exact calls_bel (impl_NodeOk.calls s J _ _ X.out)
        | with_reducible exact calls_bel (impl_NodeOk.calls z L _ _ Y.out)
        | with_reducible exact calls_bel (impl_NodeCode.calls s J _ _ (iC s J))
        | with_reducible exact calls_bel (impl_NodeCode.calls z L _ _ (iC z L))
        | with_reducible exact calls_bel0 (impl_LabelUnder.calls s I _ _ Z.out)
        | with_reducible exact calls_bel0 (impl_LabelUnder.calls z I _ _ A6.out)))
     refine wpQuiet_nil ?_
     intro _ hw'
     obtain ⟨⟨wq, hbq⟩, hw''⟩ := hw'
     subst hw''
     go_wp2
     go_ret
     exact ⟨by first | rfl | (simp; done) | (simp [*]; done), below_step HB.out hbq⟩)
  have G := F _ _ _ _ _ _ rfl rfl rfl rfl rfl rfl
  have e : EOk I s J z L = (isL I && (nOk s J && (nOk z L && (decide (Cd s J < Cd z L) && (U s I && U z I))))) := by
    unfold EOk Cd
    cases h1 : nOk s J
    · simp
    · cases h2 : nOk z L
      · simp
      · simp
  rw [e]
  exact G

end Go.Proofs.Ytohmemckdogljaa.QFnExactGraphNear
